/- Several small texts in one. No condition of its own: each part says its own. -/
import Derived.Test.YtemkbjaojinaoaaGreatShort
import Derived.Test.YtemkbjaojinaoaaGreatWorldStep
import Derived.Test.YtemkbjaojinaoaaGreatBagG
import Derived.Test.YtemkbjaojinaoaaGreatBagW
import Derived.Test.YtemkbjaojinaoaaGreatBagP
import Derived.Test.YtemkbjaojinaoaaGreatMem
import Derived.Laws.Rows
import Derived.Test.YtemkbjaojinaoaaGreatBagX9
import Derived.Deep.DeepCutAuto
import Derived.Test.YtemkbjaojinaoaaGreatBagS
import Derived.Deep.AppendSrc
import Derived.Test.YtemkbjaojinaoaaGreatBagSw
import Derived.Deep.RegionHeld3
import Derived.Test.YtemkbjaojinaoaaGreatBagSg
import Derived.Test.YtemkbjaojinaoaaGreatWorldMeets
set_option linter.unusedVariables false
set_option linter.unusedSimpArgs false
set_option maxRecDepth 100000
set_option maxHeartbeats 8000000
namespace Go.Proofs.YtemkbjaojinaoaaGreat
open Go.RowKit
def saveL (ds:List M.Wd) (hs:List Value):List Value:=(ds.zip hs).flatMap λp=>[p.2,.int .i64 p.1.things.next,.int .i64 p.1.fall,.int .i64 p.1.wide,.int .i64 p.1.high]
abbrev gameC (vt sv:Value) (G:M.Game):Array Value:=#[vt,.int .i64 G.w.things.next,.int .i64 G.w.fall,.int .i64 G.w.wide,.int .i64 G.w.high,sv,.int .i64 G.acts]
def InG (Q:Nat->Prop) (g:Nat) (sv:Value) (b:Nat):Prop:=Q b/\b≠g/\sv.ownBlock≠some b
structure GameAt (w:World) (Q:Nat->Prop) (g:Nat) (G:M.Game) (a:Option Addr) (c:Nat) (sv:Value) (hs:List Value):Prop where
 blk:Blk w g 66 (gameC (.slice a G.w.things.tables.length c) sv G)
 inQ:Q g
 st:Rob w (InG Q g sv) (stV a c G.w.things) G.w.things
 own:w.ownsRow 0 53 5 sv G.saves.length (saveL G.saves hs)
 len:hs.length=G.saves.length
 ov:∀b,sv.ownBlock=some b->Q b/\b≠g
 each:∀(i:Nat) d v,G.saves[i]?=some d->hs[i]?=some v->∃a c,v=.slice a d.things.tables.length c/\Rob w (InG Q g sv) (stV a c d.things) d.things
structure Only (Q:Nat->Prop) (w w':World):Prop where
 os:w'.os=w.os
 tape:w'.tape=w.tape
 output:w'.output=w.output
 size:w.heap.size<=w'.heap.size
 block:∀b,b<w.heap.size->¬Q b->w'.heap[b]?=w.heap[b]?
theorem Only.of_below {Q:Nat->Prop} {w w':World} (h:Below w.heap.size w w'):Only Q w w':=⟨h.os,h.tape,h.output,h.size,λb hb _=>h.block b hb⟩
theorem Only.refl (Q:Nat->Prop) (w:World):Only Q w w:=.of_below (Below.refl _ w)
theorem Only.trans {Q:Nat->Prop} {a b c:World} (h:Only Q a b) (k:Only Q b c):Only Q a c:=
 ⟨k.os.trans h.os,k.tape.trans h.tape,k.output.trans h.output,Nat.le_trans h.size k.size,λg h1 h2=>(k.block g (Nat.lt_of_lt_of_le h1 h.size) h2).trans (h.block g h1 h2)⟩
theorem Only.wide {Q R:Nat->Prop} {w w':World} (h:Only Q w w') (hq:∀b,b<w.heap.size->Q b->R b):Only R w w':=⟨h.os,h.tape,h.output,h.size,λb h1 h2=>h.block b h1 (λk=>h2 (hq b h1 k))⟩
theorem Only.below {Q:Nat->Prop} {w w':World} {B:Nat} (h:Only Q w w') (hB:B<=w.heap.size) (hq:∀b,Q b->B<=b):Below B w w':=
 ⟨h.os,h.tape,h.output,h.size,λb hb=>h.block b bO (λk=>by have:=hq b k;omega)⟩
theorem Only.setCell {Q:Nat->Prop} {w W:World} {p:Addr} (h:Only Q w W) (hp:Q p.block\/w.heap.size<=p.block) (u:Value):Only Q w (W.setCell p u):=
 ⟨h.os,h.tape,h.output,by simpa [World.setCell] using h.size,λb h1 h2=>(bS _ _ _ _ (by rintro rfl;rcases hp with k|k<;>first|exact h2 k|omega)).trans (h.block b h1 h2)⟩
theorem Only.alloc {Q:Nat->Prop} {w W:World} (h:Only Q w W) (o:Obj):Only Q w (W.alloc o):=h.trans (.of_below ((Below.refl _ W).alloc lR o))
theorem Only.drew {Q:Nat->Prop} {w W:World} (h:Only Q w W):Only Q w W.drew:=⟨h.os,h.tape,h.output,h.size,h.block⟩
theorem Only.more {Q:Nat->Prop} {w a b:World} (h:Only Q w a) (k:Below a.heap.size a b):Only Q w b:=h.trans (.of_below k)
section
variable {w W:World} {Q R:Nat->Prop} {g:Nat} {G G':M.Game} {a:Option Addr} {c:Nat} {sv:Value} {hs:List Value}
theorem GameAt.keep (h:GameAt w Q g G a c sv hs) (hz:w.heap.size<=W.heap.size) (hb:∀b,b<w.heap.size->Q b->W.heap[b]?=w.heap[b]?):GameAt W Q g G a c sv hs:=
 ⟨(hb g h.blk.lt h.inQ).trans h.blk,h.inQ,h.st.step hz (λb h1 h2=>hb b h1 h2.1),own_same h.own (λb e=>hb b (h.own.lt b e).2 (h.ov b e).1),h.len,h.ov,
 λi d v h1 h2=>by obtain ⟨a,c,e,k⟩:=h.each i d v h1 h2;exact ⟨a,c,e,k.step hz (λb h1 h2=>hb b h1 h2.1)⟩⟩
theorem GameAt.below (h:GameAt w Q g G a c sv hs) (hb:Below w.heap.size w W):GameAt W Q g G a c sv hs:=h.keep hb.size (λb h1 _=>hb.block b h1)
theorem GameAt.wide (h:GameAt w Q g G a c sv hs) (hq:∀b,b<w.heap.size->Q b->R b):GameAt w R g G a c sv hs:=
 ⟨h.blk,hq g h.blk.lt h.inQ,h.st.wide (λb h1 k=>⟨hq b h1 k.1,k.2⟩),h.own,h.len,λb e=>⟨hq b (h.own.lt b e).2 (h.ov b e).1,(h.ov b e).2⟩,
 λi d v h1 h2=>by obtain ⟨a,c,e,k⟩:=h.each i d v h1 h2;exact ⟨a,c,e,k.wide (λb h1 k=>⟨hq b h1 k.1,k.2⟩)⟩⟩
theorem GameAt.upd (h:GameAt w Q g G a c sv hs) (hz:w.heap.size<=W.heap.size) (hb:∀b,b<w.heap.size->Q b->b≠g->W.heap[b]?=w.heap[b]?) {a':Option Addr} {c':Nat}
  (blk:Blk W g 66 (gameC (.slice a' G'.w.things.tables.length c') sv G')) (hsv:G'.saves=G.saves) (st:Rob W (InG Q g sv) (stV a' c' G'.w.things) G'.w.things):GameAt W Q g G' a' c' sv hs:=
 ⟨blk,h.inQ,st,by rw [hsv];exact own_same h.own (λb e=>hb b (h.own.lt b e).2 (h.ov b e).1 (h.ov b e).2),by rw [hsv];exact h.len,h.ov,
 λi d v h1 h2=>by rw [hsv] at h1;obtain ⟨a,c,e,k⟩:=h.each i d v h1 h2;exact ⟨a,c,e,k.step hz (λb h1 h2=>hb b h1 h2.1 h2.2.1)⟩⟩
theorem GameAt.newG (h:GameAt w Q g G a c sv hs) (hq:∀b,w.heap.size<=b->Q b):∀b,w.heap.size<=b->InG Q g sv b:=by
 intro b hb
 have k:=h.blk.lt
 exact ⟨hq b hb,by omega,λe=>by have:=(h.own.lt b e).2;omega⟩
end
abbrev replyV (r:M.Reply) (ids met:Value):Value:=.agg #[.int .i64 r.code,.int .i64 r.n,ids,met]
def DoPost (Q:Nat->Prop) (w:World) (g:Nat) (G':M.Game) (r:M.Reply) (e:Ending) (w':World):Prop:=
 ∃(a:Option Addr) (c:Nat) (sv:Value) (hs:List Value) (ids met:Value),e=.returned (replyV r ids met)/\
  GameAt w' (λb=>(Q b\/w.heap.size<=b)/\ids.ownBlock≠some b/\met.ownBlock≠some b) g G' a c sv hs/\Only Q w w'/\
  w'.ownsRow w.heap.size 3 1 ids r.ids.length (r.ids.map (Value.int .i64))/\w'.ownsRow w.heap.size 71 2 met r.met.length (r.met.flatMap pairL)
def MidPost (Q:Nat->Prop) (w:World) (g:Nat) (G':M.Game) (code:Int) (e:Ending) (w':World):Prop:=
 ∃(a:Option Addr) (c:Nat) (sv:Value) (hs:List Value),e=.returned (.int .i64 code)/\GameAt w' (λb=>Q b\/w.heap.size<=b) g G' a c sv hs/\Only Q w w'
theorem no_calls (e:Int) (w:World):
  Calls Tryz.prog 18 #[.int .i64 e] w λr w'=>r=.returned (.agg #[.int .i64 e,.int .i64 0,.slice none 0 0,.slice none 0 0])/\w'=w.alloc (.cells #[.int .i64 e,.int .i64 0,.slice none 0 0,.slice none 0 0] 35):=by
 go_enter Tryz.func18,Tryz.ntmps18
 go_wp2
 refine bodyPost_ret (results_cell_row rfl _ _ _ _ _ _ _ rfl (heap_alloc_new w _) Tryz.underlying35 rfl kR) rfl ⟨rfl,rfl⟩
def QD (Q:Nat->Prop) (w:World) (b:Nat):Prop:=(Q b\/w.heap.size<=b)/\b≠w.heap.size+1
abbrev more (G:M.Game):M.Game:={G with acts:=G.acts+1}
theorem reply_blk {U:World} {b:Nat} {z0 z1 z2 z3:Value} (h:Blk U b 35 #[z0,z1,z2,z3]) (c0 c1 c2 c3:Value):
  ((((U.setCell ⟨b,0,none⟩ c0).setCell ⟨b,1,none⟩ c1).setCell ⟨b,2,none⟩ c2).setCell ⟨b,3,none⟩ c3).heap[b]?=some (.cells #[c0,c1,c2,c3] 35 (0,0)):=
 blk_to ((((h.put 0 c0).put 1 c1).put 2 c2).put 3 c3) (by rfl)
theorem do_end {Q:Nat->Prop} {w W3 U:World} {g:Nat} {G':M.Game} {a:Option Addr} {c:Nat} {sv:Value} {hs:List Value} (h:GameAt W3 (QD Q w) g G' a c sv hs) (ho:Only Q w W3) (hz:w.heap.size+1<W3.heap.size) (hU:Below W3.heap.size W3 U)
  (r:M.Reply) {ids met:Value} {i0 m0:Value} (hid:U.ownsRow w.heap.size 3 1 ids r.ids.length (r.ids.map (Value.int .i64))) (hmet:U.ownsRow w.heap.size 71 2 met r.met.length (r.met.flatMap pairL))
  (hni:∀b,ids.ownBlock=some b->W3.heap.size<=b) (hnm:∀b,met.ownBlock=some b->W3.heap.size<=b) (hq:∀b,Q b->b<w.heap.size) (c0 c1 c2 c3:Value):
  ∃(a:Option Addr) (c:Nat) (sv:Value) (hs:List Value) (ids' met':Value),Ending.returned (replyV r ids met)=.returned (replyV r ids' met')/\
  GameAt ((((U.setCell ⟨w.heap.size+1,0,none⟩ c0).setCell ⟨w.heap.size+1,1,none⟩ c1).setCell ⟨w.heap.size+1,2,none⟩ c2).setCell ⟨w.heap.size+1,3,none⟩ c3) (λb=>(Q b\/w.heap.size<=b)/\ids'.ownBlock≠some b/\met'.ownBlock≠some b) g G' a c sv hs/\
  Only Q w ((((U.setCell ⟨w.heap.size+1,0,none⟩ c0).setCell ⟨w.heap.size+1,1,none⟩ c1).setCell ⟨w.heap.size+1,2,none⟩ c2).setCell ⟨w.heap.size+1,3,none⟩ c3)/\
  ((((U.setCell ⟨w.heap.size+1,0,none⟩ c0).setCell ⟨w.heap.size+1,1,none⟩ c1).setCell ⟨w.heap.size+1,2,none⟩ c2).setCell ⟨w.heap.size+1,3,none⟩ c3).ownsRow w.heap.size 3 1 ids' r.ids.length (r.ids.map (Value.int .i64))/\
  ((((U.setCell ⟨w.heap.size+1,0,none⟩ c0).setCell ⟨w.heap.size+1,1,none⟩ c1).setCell ⟨w.heap.size+1,2,none⟩ c2).setCell ⟨w.heap.size+1,3,none⟩ c3).ownsRow w.heap.size 71 2 met' r.met.length (r.met.flatMap pairL):=by
 have far:∀b,b≠w.heap.size+1->((((U.setCell ⟨w.heap.size+1,0,none⟩ c0).setCell ⟨w.heap.size+1,1,none⟩ c1).setCell ⟨w.heap.size+1,2,none⟩ c2).setCell ⟨w.heap.size+1,3,none⟩ c3).heap[b]?=U.heap[b]?:=λb hb=>
  (((bS _ _ _ b hb).trans (bS _ _ _ b hb)).trans (bS _ _ _ b hb)).trans (bS _ _ _ b hb)
 have hn1:∀{v:Value} (_:∀b,v.ownBlock=some b->W3.heap.size<=b) b,v.ownBlock=some b->b≠w.heap.size+1:=λhv b e=>by have:=hv b e;omega
 refine ⟨a,c,sv,hs,ids,met,rfl,?_,?_,own_same hid (λb e=>far b (hn1 hni b e)),own_same hmet (λb e=>far b (hn1 hnm b e))⟩
 ·refine (h.wide (R:=λb=>((Q b\/w.heap.size<=b)/\ids.ownBlock≠some b/\met.ownBlock≠some b)/\b≠w.heap.size+1) (λb h1 k=>⟨⟨k.1,λe=>?_,λe=>?_⟩,k.2⟩)).keep ?_ (λb h1 k=>(far b k.2).trans (hU.block b h1))|>.wide (λb _ k=>k.1)
  ·have:=hni b e;omega
  ·have:=hnm b e;omega
  ·simpa [World.setCell] using hU.size
 ·exact ((((ho.more hU).setCell (.inr (Nat.le_succ _)) _).setCell (.inr (Nat.le_succ _)) _).setCell (.inr (Nat.le_succ _)) _).setCell (.inr (Nat.le_succ _)) _
theorem do_end2 {Q:Nat->Prop} {w U:World} {m g:Nat} {G':M.Game} {a:Option Addr} {c:Nat} {sv:Value} {hs:List Value} {ids met:Value} (h:GameAt U (λb=>((QD Q w b/\b<m)\/m<=b)/\ids.ownBlock≠some b/\met.ownBlock≠some b) g G' a c sv hs)
  (ho:Only Q w U) (hm:w.heap.size+1<m) (r:M.Reply) (hid:U.ownsRow m 3 1 ids r.ids.length (r.ids.map (Value.int .i64))) (hmet:U.ownsRow m 71 2 met r.met.length (r.met.flatMap pairL)) (c0 c1 c2 c3:Value):
  DoPost Q w g G' r (.returned (replyV r ids met)) ((((U.setCell ⟨w.heap.size+1,0,none⟩ c0).setCell ⟨w.heap.size+1,1,none⟩ c1).setCell ⟨w.heap.size+1,2,none⟩ c2).setCell ⟨w.heap.size+1,3,none⟩ c3):=by
 have far:∀b,b≠w.heap.size+1->((((U.setCell ⟨w.heap.size+1,0,none⟩ c0).setCell ⟨w.heap.size+1,1,none⟩ c1).setCell ⟨w.heap.size+1,2,none⟩ c2).setCell ⟨w.heap.size+1,3,none⟩ c3).heap[b]?=U.heap[b]?:=λb hb=>
  (((bS _ _ _ b hb).trans (bS _ _ _ b hb)).trans (bS _ _ _ b hb)).trans (bS _ _ _ b hb)
 have h':=h.wide (R:=λb=>((Q b\/w.heap.size<=b)/\ids.ownBlock≠some b/\met.ownBlock≠some b)/\b≠w.heap.size+1) (λb _ q=>by
  rcases q.1 with k|k
  ·exact ⟨⟨k.1.1,q.2⟩,k.1.2⟩
  ·exact ⟨⟨.inr bO,q.2⟩,by omega⟩)
 refine ⟨a,c,sv,hs,ids,met,rfl,(h'.keep (by simp [World.setCell]) (λb _ q=>far b q.2)).wide (λb _ q=>q.1),(((ho.setCell (.inr (Nat.le_succ _)) _).setCell (.inr (Nat.le_succ _)) _).setCell (.inr (Nat.le_succ _)) _).setCell (.inr (Nat.le_succ _)) _,?_,?_⟩
 ·exact own_lower (own_same hid (λb e=>far b (by have:=(hid.lt b e).1;omega))) bO
 ·exact own_lower (own_same hmet (λb e=>far b (by have:=(hmet.lt b e).1;omega))) bO
theorem Only.inner {Q:Nat->Prop} {w W2 W:World} {m:Nat} (h:Only (λb=>QD Q w b/\b<m) W2 W) (h2:Only Q w W2):Only Q w W:=
 ⟨h.os.trans h2.os,h.tape.trans h2.tape,h.output.trans h2.output,Nat.le_trans h2.size h.size,λb hb hq=>(h.block b (Nat.lt_of_lt_of_le hb h2.size) (λk=>by rcases k.1.1 with k|k<;>first|exact hq k|omega)).trans (h2.block b hb hq)⟩
theorem DoPost.more {Q:Nat->Prop} {w U V:World} {g:Nat} {G':M.Game} {r:M.Reply} {e:Ending} (h:DoPost Q w g G' r e U) (hb:Below U.heap.size U V):DoPost Q w g G' r e V:=by
 obtain ⟨a,c,sv,hs,ids,met,he,hg,ho,h1,h2⟩:=h
 exact ⟨a,c,sv,hs,ids,met,he,hg.below hb,ho.more hb,own_below h1 hb,own_below h2 hb⟩
section
variable {w W2:World} {Q:Nat->Prop} {g:Nat} {G:M.Game} {a:Option Addr} {c:Nat} {sv:Value} {hs:List Value} {kind id n mask:Int} {row:M.Row} {box:M.Box}
theorem do_first (h:GameAt w Q g G a c sv hs) (hq:∀b,Q b->b<w.heap.size):Hid (GameAt w Q g G a c sv hs)/\Hid (∀b,Q b->b<w.heap.size)/\w.cell? ⟨g,0,none⟩=some (.slice a G.w.things.tables.length c)/\w.cell? ⟨g,1,none⟩=some (.int .i64 G.w.things.next)/\w.cell? ⟨g,6,none⟩=some (.int .i64 G.acts)/\
  (∀i,w.frozen? ⟨g,i,none⟩=false)/\g<w.heap.size/\¬g=w.heap.size/\¬w.heap.size=g/\¬g=w.heap.size+1/\¬w.heap.size+1=g:=by
 have lg:=h.blk.lt
 exact ⟨hI h,hI hq,h.blk.cell 0,h.blk.cell 1,h.blk.cell 6,λi=>h.blk.free i,lg,by omega,by omega,by omega,by omega⟩
theorem do_facts (h:GameAt w Q g G a c sv hs) (hq:∀b,Q b->b<w.heap.size) (hW2:W2=(((w.setCell ⟨g,6,none⟩ (.int .i64 (G.acts+1))).alloc (.cells (actC ⟨kind,id,n,mask,row,box⟩) 42)).alloc (.cells #[.int .i64 0,.int .i64 0,.slice none 0 0,.slice none 0 0] 35)).alloc (.cells #[.slice a G.w.things.tables.length c,.int .i64 G.w.things.next] 51)):
  Hid (W2.heap.size=w.heap.size+3)/\w.heap.size+2<W2.heap.size/\Hid (Only Q w W2)/\Hid (GameAt W2 (QD Q w) g (more G) a c sv hs)/\Hid (∀b,W2.heap.size<=b->QD Q w b)/\
  (W2.cell? ⟨w.heap.size,0,none⟩=some (.int .i64 kind)/\W2.cell? ⟨w.heap.size,1,none⟩=some (.int .i64 id)/\W2.cell? ⟨w.heap.size,2,none⟩=some (.int .i64 n)/\W2.cell? ⟨w.heap.size,3,none⟩=some (.int .i64 mask)/\W2.cell? ⟨w.heap.size,4,none⟩=some (.int .i64 row.X)/\W2.cell? ⟨w.heap.size,5,none⟩=some (.int .i64 row.Y)/\W2.cell? ⟨w.heap.size,6,none⟩=some (.int .i64 row.PX)/\W2.cell? ⟨w.heap.size,7,none⟩=some (.int .i64 row.PY)/\W2.cell? ⟨w.heap.size,8,none⟩=some (.int .i64 row.W)/\W2.cell? ⟨w.heap.size,9,none⟩=some (.int .i64 row.H)/\W2.cell? ⟨w.heap.size,10,none⟩=some (.int .i64 row.M)/\W2.cell? ⟨w.heap.size,11,none⟩=some (.int .i64 row.R)/\W2.cell? ⟨w.heap.size,12,none⟩=some (.int .i64 box.id)/\W2.cell? ⟨w.heap.size,13,none⟩=some (.int .i64 box.x1)/\W2.cell? ⟨w.heap.size,14,none⟩=some (.int .i64 box.y1)/\W2.cell? ⟨w.heap.size,15,none⟩=some (.int .i64 box.x2)/\W2.cell? ⟨w.heap.size,16,none⟩=some (.int .i64 box.y2))/\(W2.cell? ⟨w.heap.size+2,0,none⟩=some (.slice a G.w.things.tables.length c)/\W2.cell? ⟨w.heap.size+2,1,none⟩=some (.int .i64 G.w.things.next))/\(W2.cell? ⟨w.heap.size+1,0,none⟩=some (.int .i64 0)/\W2.cell? ⟨w.heap.size+1,1,none⟩=some (.int .i64 0)/\W2.cell? ⟨w.heap.size+1,2,none⟩=some (.slice none 0 0)/\W2.cell? ⟨w.heap.size+1,3,none⟩=some (.slice none 0 0))/\
  (∀i,W2.frozen? ⟨w.heap.size+1,i,none⟩=false)/\(W2.cell? ⟨g,0,none⟩=some (.slice a G.w.things.tables.length c)/\W2.cell? ⟨g,1,none⟩=some (.int .i64 G.w.things.next)/\W2.cell? ⟨g,2,none⟩=some (.int .i64 G.w.fall)/\W2.cell? ⟨g,3,none⟩=some (.int .i64 G.w.wide)/\W2.cell? ⟨g,4,none⟩=some (.int .i64 G.w.high)/\W2.cell? ⟨g,5,none⟩=some (sv)/\W2.cell? ⟨g,6,none⟩=some (.int .i64 (G.acts+1)))/\(∀i,W2.frozen? ⟨g,i,none⟩=false)/\g<W2.heap.size/\w.heap.size<W2.heap.size/\w.heap.size+1<W2.heap.size/\w.heap.size+2<W2.heap.size/\
  Hid (Blk W2 w.heap.size 42 (actC ⟨kind,id,n,mask,row,box⟩))/\Hid (Blk W2 (w.heap.size+1) 35 #[.int .i64 0,.int .i64 0,.slice none 0 0,.slice none 0 0])/\Hid (Blk W2 (w.heap.size+2) 51 #[.slice a G.w.things.tables.length c,.int .i64 G.w.things.next])/\Hid (Blk W2 g 66 (gameC (.slice a G.w.things.tables.length c) sv (more G))):=by
 have lg:=h.blk.lt
 have b3:Blk W2 w.heap.size 42 (actC ⟨kind,id,n,mask,row,box⟩):=by
  rw [hW2]
  exact ((Blk.new_at (by simp [World.setCell])).alloc _).alloc _
 have b4:Blk W2 (w.heap.size+1) 35 #[.int .i64 0,.int .i64 0,.slice none 0 0,.slice none 0 0]:=by
  rw [hW2]
  exact (Blk.new_at (by simp [World.setCell])).alloc _
 have b7:Blk W2 (w.heap.size+2) 51 #[.slice a G.w.things.tables.length c,.int .i64 G.w.things.next]:=by
  rw [hW2]
  exact Blk.new_at (by simp [World.setCell])
 have bg:Blk W2 g 66 (gameC (.slice a G.w.things.tables.length c) sv (more G)):=by
  rw [hW2]
  exact blk_to ((((h.blk.put 6 _).alloc _).alloc _).alloc _) (by rfl)
 have hz:W2.heap.size=w.heap.size+3:=by rw [hW2];simp [World.setCell]
 have hB2:∀b,b<w.heap.size->b≠g->W2.heap[b]?=w.heap[b]?:=by
  intro b h1 h2
  rw [hW2]
  exact (Below.heap_alloc _ _ b sW).trans ((Below.heap_alloc _ _ b sW).trans ((Below.heap_alloc _ _ b sW).trans (bS _ _ _ b h2)))
 have ho:Only Q w W2:=by
  rw [hW2]
  exact ((((Only.refl Q w).setCell (.inl h.inQ) _).alloc _).alloc _).alloc _
 have hw:=h.wide (R:=QD Q w) (λb h1 k=>⟨.inl k,by omega⟩)
 exact ⟨hI hz,by omega,hI ho,hI (hw.upd bO (λb h1 _ h3=>hB2 b h1 h3) bg rfl (hw.st.step bO (λb h1 k=>hB2 b h1 k.2.1))),hI (λb hb=>⟨.inr bO,by omega⟩),
  ⟨b3.cell 0,b3.cell 1,b3.cell 2,b3.cell 3,b3.cell 4,b3.cell 5,b3.cell 6,b3.cell 7,b3.cell 8,b3.cell 9,b3.cell 10,b3.cell 11,b3.cell 12,b3.cell 13,b3.cell 14,b3.cell 15,b3.cell 16⟩,⟨b7.cell 0,b7.cell 1⟩,⟨b4.cell 0,b4.cell 1,b4.cell 2,b4.cell 3⟩,λi=>b4.free i,⟨bg.cell 0,bg.cell 1,bg.cell 2,bg.cell 3,bg.cell 4,bg.cell 5,bg.cell 6⟩,λi=>bg.free i,bg.lt,b3.lt,b4.lt,b7.lt,hI b3,hI b4,hI b7,hI bg⟩
end
theorem run_append_none {P:Program} (w:World) (base:Nat) (t ty e:TypeId) (i:TypeInfo) (size:Nat) (ht:P.underlying t=some (.slice e)) (hi:P.info? e=some i) (hsize:i.size=size)
  (v:Value) (n:Nat) (xs:List Value) (hown:w.ownsRow base e size v n xs) (c:Nat):(Builtin.append_ #[t,t] ty #[v,.slice none 0 c]).run P w=.ok v w:=by
 rcases hown.2 with ⟨rfl,rfl⟩|⟨g,cap,cur,rfl,_,_,hn,_⟩
 ·have hs:=Src.ofNil (size:=i.size) (w:=w) ht c
  simp [Builtin.append_,run_underlying ht,sizeOf,typeInfo,hi,hs.len,hs.cells]
 ·have k:=run_append_room_src (P:=P) w t t ty e i ht hi g 0 n cap (.slice none 0 c) 0 [] (Src.ofNil (size:=i.size) (w:=w) ht c) hn sS sS
  simpa [World.setCells] using k
theorem run_append_own_any {P:Program} (w:World) (base:Nat) (t ty e:TypeId) (i:TypeInfo) (z:Value) (size bytes:Nat) (ht:P.underlying t=some (.slice e)) (hi:P.info? e=some i) (hz:i.zero=some z)
  (hsize:i.size=size) (hby:i.bytes=bytes) (hzs:z.cells.size=size) (hsz:0<size) (v:Value) (n:Nat) (xs:List Value) (hown:w.ownsRow base e size v n xs)
  (u:Value) (base2 m:Nat) (news:List Value) (hsrc:w.ownsRow base2 e size u m news) (h1:∀u∈news,u.oneCell'=true) (h63:n+m<=maxLen) (hbytes:(n+m)*bytes<=140737488355328) (hbase:base<=w.heap.size):
  ∃v' w',(Builtin.append_ #[t,t] ty #[v,u]).run P w=.ok v' w'/\w'.ownsRow base e size v' (n+m) (xs++news)/\w.grownBy w' v.ownBlock/\(v'.ownBlock=v.ownBlock\/v'.ownBlock=some w.heap.size):=by
 rcases id hsrc.2 with ⟨rfl,rfl⟩|⟨g,cap,cur,rfl,_⟩
 ·have hx:news=[]:=List.length_eq_zero_iff.1 (by simpa using hsrc.1)
  subst hx
  refine ⟨v,w,run_append_none w base t ty e i size ht hi hsize v n xs hown 0,by simpa using hown,⟨rfl,rfl,rfl,Nat.le_refl _,λ_ _ _=>rfl⟩,.inl rfl⟩
 ·obtain ⟨v',w',hr,k1,k2,_,k3⟩:=run_append_own_at (P:=P) w base t ty e i z size bytes ht hi hz hsize hby hzs hsz v n xs hown ⟨g,0,none⟩ m cap news hsrc.1 (λj u hj=>hsrc.cells (g:=g) rfl j u hj) h1 h63 hbytes hbase
  exact ⟨v',w',hr,k1,k2,k3⟩
theorem step_append_own_any2 {tm:Array Value} {P:Program} {ops:Array Oper} {o:Oper} {a:Act} {w:World} {K:Act->World->Prop} {Q:Exit->Act->World->Prop} {E:Prop}
  (htm:tm=a.tmps) (hgd:o.guard=none) (s x:Operand) (t:TypeId) (hop:o.op=Op.call {callee:=Callee.builtin Builtin.append,args:=#[s,x],argTypes:=#[t,t]})
  (base:Nat) (e:TypeId) (i:TypeInfo) (z:Value) (size bytes:Nat) (ht:P.underlying t=some (.slice e)) (hi:P.info? e=some i) (hz:i.zero=some z)
  (hsize:i.size=size) (hby:i.bytes=bytes) (hzs:z.cells.size=size) (hsz:0<size) (v:Value) (n:Nat) (xs:List Value) (hown:w.ownsRow base e size v n xs) (hs:a.eval s=v)
  (u:Value) (base2 m:Nat) (news:List Value) (hsrc:w.ownsRow base2 e size u m news) (hx:a.eval x=u) (h1:∀u∈news,u.oneCell'=true) (h63:n+m<=maxLen) (hbytes:(n+m)*bytes<=140737488355328) (hbase:base<=w.heap.size)
  (hK:∀v' w',w'.ownsRow base e size v' (n+m) (xs++news)->w.grownBy w' v.ownBlock->(v'.ownBlock=v.ownBlock\/v'.ownBlock=some w.heap.size)->K (a.put o.dst v') w'):
  if Region.wanted o (yielded ops tm)=true then Oper.wp P o a w K Q else E:=by
 have hw:Region.wanted o (yielded ops tm)=true:=by simp [Region.wanted,hgd]
 rw [if_pos hw]
 obtain ⟨v',w',hr,k1,k2,k3⟩:=run_append_own_any (P:=P) w base t o.type e i z size bytes ht hi hz hsize hby hzs hsz v n xs hown u base2 m news hsrc h1 h63 hbytes hbase
 unfold Oper.wp
 simp [execOp,hop,resolve,invoke,builtin,hs,hx,hr,Result.andThen]
 exact hK v' w' k1 k2 k3
theorem wpList_append_own_any {P:Program} {ops:Array Oper} {rest:List Oper} {o:Oper} {a:Act} {w:World} {Q:Exit->Act->World->Prop} (hgd:o.guard=none) (s x:Operand) (t:TypeId)
  (ho:o.op=.call {callee:=.builtin .append,args:=#[s,x],argTypes:=#[t,t]}) (base:Nat) (e:TypeId) (i:TypeInfo) (z:Value) (size bytes:Nat) (ht:P.underlying t=some (.slice e)) (hi:P.info? e=some i) (hz:i.zero=some z)
  (hsize:i.size=size) (hby:i.bytes=bytes) (hzs:z.cells.size=size) (hsz:0<size) (v:Value) (n:Nat) (xs:List Value) (hs:a.eval s=v) (hown:w.ownsRow base e size v n xs)
  (u:Value) (base2 m:Nat) (news:List Value) (hx:a.eval x=u) (hsrc:w.ownsRow base2 e size u m news) (h1:∀u∈news,u.oneCell'=true) (h63:n+m<=maxLen) (hbytes:(n+m)*bytes<=140737488355328) (hbase:base<=w.heap.size)
  (h:∀v' w',w'.ownsRow base e size v' (n+m) (xs++news)->w.grownBy w' v.ownBlock->(v'.ownBlock=v.ownBlock\/v'.ownBlock=some w.heap.size)->wpList P ops Q rest (a.put o.dst v') w'):wpList P ops Q (o::rest) a w:=by
 refine wpList_plain hgd λK hK=>?_
 obtain ⟨v',w',hr,h2,h3,h4⟩:=run_append_own_any (P:=P) w base t o.type e i z size bytes ht hi hz hsize hby hzs hsz v n xs hown u base2 m news hsrc h1 h63 hbytes hbase
 unfold Oper.wp execOp
 simp only [ho,resolve,invoke,builtin,Sem.run_bind,Sem.run_pure,Result.andThen_ok,mA,mC,mN,hs,hx,hr]
 exact hK _ _ (h v' w' h2 h3 h4)
theorem tabL_snoc (ts:List M.Table) (hs:List (Value×Value)) (hl:hs.length=ts.length) (t:M.Table) (p:Value×Value):tabL (ts++[t]) (hs++[p])=tabL ts hs++[.int .i64 t.mask,p.1,p.2]:=by
 unfold tabL
 rw [List.zip_append hl.symm,List.flatMap_append]
 rfl
theorem OwnTabs.nil (w:World) (base:Nat):OwnTabs w base (.slice none 0 0) [] []:=
 ⟨rfl,World.ownsRow_nil _ _ _ _,λi t h h1 _=>by simp at h1,(List.nodup_nil:([]:List Nat).Nodup)⟩
theorem OwnTabs.snoc {w W:World} {base:Nat} {vt vt' v1 v2:Value} {ts:List M.Table} {hs:List (Value×Value)} {t:M.Table} (h:OwnTabs w base vt ts hs)
  (hrow:W.ownsRow base 102 3 vt' (ts.length+1) (tabL ts hs++[.int .i64 t.mask,v1,v2])) (hsame:∀g,base<=g->g<w.heap.size->vt.ownBlock≠some g->W.heap[g]?=w.heap[g]?)
  (k1:W.ownsRow base 3 1 v1 t.ids.length (t.ids.map (Value.int .i64))) (k2:W.ownsRow base 38 8 v2 t.rows.length (t.rows.flatMap rowL))
  (n1:∀g,v1.ownBlock=some g->w.heap.size<=g) (n2:∀g,v2.ownBlock=some g->w.heap.size<=g) (hne:∀g,v1.ownBlock=some g->v2.ownBlock≠some g)
  (hat:vt'.ownBlock=vt.ownBlock\/∃g,vt'.ownBlock=some g/\w.heap.size<=g/\v1.ownBlock≠some g/\v2.ownBlock≠some g):OwnTabs W base vt' (ts++[t]) (hs++[(v1,v2)]):=by
 have hl:=h.len
 have hold:∀g∈blks vt hs,base<=g/\g<w.heap.size:=λg hg=>h.blk hg
 have hnd:=h.apart
 have hrest:=blks_rest hnd
 have hmem:∀g,g∈((hs.flatMap λh=>[h.1,h.2]).filterMap Value.ownBlock)->base<=g/\g<w.heap.size:=by
  intro g hg
  refine hold g ?_
  unfold blks
  cases e:vt.ownBlock
  ·rw [List.filterMap_cons,e];exact hg
  ·rw [List.filterMap_cons,e];exact List.mem_cons_of_mem _ hg
 have hnvt:∀g,vt.ownBlock=some g->g∉((hs.flatMap λh=>[h.1,h.2]).filterMap Value.ownBlock):=by
  intro g e hg
  unfold blks at hnd
  rw [List.filterMap_cons,e] at hnd
  exact (List.nodup_cons.1 hnd).1 hg
 have hvt':∀g,vt'.ownBlock=some g->g∉((hs.flatMap λh=>[h.1,h.2]).filterMap Value.ownBlock):=by
  intro g e hg
  rcases hat with k|⟨g',e',hg',_⟩
  ·exact hnvt g (k▸e) hg
  ·rw [e'] at e
   simp only [Option.some.injEq] at e
   have:=hmem g hg
   omega
 have hvt1:∀g,vt'.ownBlock=some g->v1.ownBlock≠some g/\v2.ownBlock≠some g:=by
  intro g e
  rcases hat with k|⟨g',e',_,a,b⟩
  ·rw [k] at e
   have:=(h.row.lt g e).2
   exact ⟨λe1=>by have:=n1 g e1;omega,λe1=>by have:=n2 g e1;omega⟩
  ·rw [e'] at e
   simp only [Option.some.injEq] at e
   subst e
   exact ⟨a,b⟩
 refine ⟨by simp [hl],?_,?_,?_⟩
 ·rw [List.length_append,List.length_singleton,tabL_snoc ts hs hl]
  exact hrow
 ·intro i t' p h1 h2
  rcases Nat.lt_or_ge i ts.length with hi|hi
  ·rw [List.getElem?_append_left hi] at h1
   rw [List.getElem?_append_left bO] at h2
   have k:=h.each i t' p h1 h2
   have hm:=List.mem_of_getElem? h2
   have hb:∀v,v=p.1\/v=p.2->∀g,v.ownBlock=some g->vt.ownBlock≠some g:=by
    intro v hv g hg e
    refine hnvt g e (List.mem_filterMap.2 ⟨v,List.mem_flatMap.2 ⟨p,hm,?_⟩,hg⟩)
    rcases hv with rfl|rfl<;>simp
   exact ⟨own_same k.ids (λg hg=>hsame g (k.ids.lt g hg).1 (k.ids.lt g hg).2 (hb _ (.inl rfl) g hg)),own_same k.rows (λg hg=>hsame g (k.rows.lt g hg).1 (k.rows.lt g hg).2 (hb _ (.inr rfl) g hg))⟩
  ·rw [List.getElem?_append_right hi] at h1
   rw [List.getElem?_append_right bO] at h2
   have hlt:=(List.getElem?_eq_some_iff.1 h1).1
   simp only [List.length_singleton] at hlt
   have e0:i-ts.length=0:=by omega
   have e1:i-hs.length=0:=by omega
   rw [e0] at h1
   rw [e1] at h2
   simp only [List.getElem?_cons_zero,Option.some.injEq] at h1 h2
   subst h1;subst h2
   exact ⟨k1,k2⟩
 ·have hnew:((hs++[(v1,v2)]).flatMap λh=>[h.1,h.2]).filterMap Value.ownBlock=((hs.flatMap λh=>[h.1,h.2]).filterMap Value.ownBlock)++[v1,v2].filterMap Value.ownBlock:=by
   rw [List.flatMap_append,List.filterMap_append]
   simp
  have hap:((hs.flatMap λh=>[h.1,h.2]).filterMap Value.ownBlock++[v1,v2].filterMap Value.ownBlock).Nodup:=by
   rw [List.nodup_append]
   refine ⟨hrest,?_,?_⟩
   ·cases e1:v1.ownBlock<;>cases e2:v2.ownBlock<;>simp [List.filterMap_cons,e1,e2]
    rename_i a b
    intro e
    exact hne a e1 (by rw [e2,e])
   ·intro a ha b hb e
    subst e
    have:=hmem a ha
    obtain ⟨v,hv,e⟩:=List.mem_filterMap.1 hb
    simp only [List.mem_cons,List.not_mem_nil,or_false] at hv
    rcases hv with rfl|rfl
    ·have:=n1 a e;omega
    ·have:=n2 a e;omega
  unfold blks
  cases e:vt'.ownBlock with
  |none=>rw [List.filterMap_cons,e,hnew];exact hap
  |some g=>
   rw [List.filterMap_cons,e,hnew]
   refine List.nodup_cons.2 ⟨?_,hap⟩
   rw [List.mem_append]
   rintro (hg|hg)
   ·exact hvt' g e hg
   ·obtain ⟨v,hv,ev⟩:=List.mem_filterMap.1 hg
    simp only [List.mem_cons,List.not_mem_nil,or_false] at hv
    rcases hv with rfl|rfl
    ·exact (hvt1 g e).1 ev
    ·exact (hvt1 g e).2 ev
theorem new_calls (wide high fall:Int) (w:World) (hg:M.goodW ⟨⟨[],0⟩,fall,wide,high⟩=true):
  Calls Tryz.prog 5 #[.int .i64 wide,.int .i64 high,.int .i64 fall] w λe w'=>∃g,e=.returned (.tuple #[.pointer (some ⟨g,0,none⟩),.int .i64 0])/\GameAt w' (λb=>w.heap.size<=b/\b<w'.heap.size) g ⟨⟨⟨[],0⟩,fall,wide,high⟩,[],0⟩ none 0 (.slice none 0 0) []/\Below w.heap.size w w':=by
 have HG:=hI (λU=>goodWorld_calls (w:=U) (vt:=.slice none 0 0) (d:=⟨⟨[],0⟩,fall,wide,high⟩) (nil_store U 0) nil_in)
 rw [hg] at HG
 clear hg
 go_enter Tryz.func5,Tryz.ntmps5
 go_wp2_with (go_at_call 15;go_loud (refine (HG.out _).mono ?_;rintro e w1 ⟨rfl,hb1⟩;have K1:Below w.heap.size w w1:=(show Below w.heap.size w _ from bel9).trans (hb1.mono sid9);have hz1:=hb1.size;(try simp at hz1);have b1:Blk w1 w.heap.size 53 #[.slice none 0 0,.int .i64 0,.int .i64 fall,.int .i64 wide,.int .i64 high]:=Blk.below (Blk.new_at rfl) hb1 sid9;have y0:=b1.cell 0;have y1:=b1.cell 1;have y2:=b1.cell 2;have y3:=b1.cell 3;have y4:=b1.cell 4;simp at y0 y1 y2 y3 y4;have ly:=b1.lt))
 go_ret2
 refine ⟨w1.heap.size,rfl,⟨Blk.new_at rfl,⟨by omega,by simp⟩,(λU _ _=>nil_store U 0),World.ownsRow_nil _ _ _ _,rfl,(λb e=>by cases e),λi d v h1 _=>by simp at h1⟩,?_⟩
 exact bel9
def QS (Q:Nat->Prop) (w:World) (o:Value) (b:Nat):Prop:=(Q b\/w.heap.size<=b)/\b≠w.heap.size/\o.ownBlock≠some b
theorem gstep_calls {w:World} {Q:Nat->Prop} {g:Nat} {G:M.Game} {a:Option Addr} {c:Nat} {sv:Value} {hs:List Value} (h:GameAt w Q g G a c sv hs) (hq:∀b,Q b->b<w.heap.size) (hG:M.GoodG G) (n:Int):
  Calls Tryz.prog 23 #[.pointer (some ⟨g,0,none⟩),.int .i64 n] w (DoPost Q w g (M.stepG G n).1 (M.stepG G n).2):=by
 have HG0:=hI h
 have HQ:=hI hq
 have lg:=h.blk.lt
 have ng1:¬g=w.heap.size:=by omega
 have ng2:¬w.heap.size=g:=by omega
 clear h hq
 rcases (show n<1\/(¬n<1/\8<n)\/(¬n<1/\¬8<n) by omega) with hn|⟨hn,hn8⟩|⟨hn,hn8⟩
 ·rw [show M.stepG G n=(G,M.no 2) by unfold M.stepG;rw [if_pos (.inl hn)]]
  go_enter Tryz.func23,Tryz.ntmps23
  go_wp2
  refine bodyPost_ret (results_cell_row rfl _ _ _ _ _ _ _ rfl (heap_alloc_new w _) Tryz.underlying35 rfl kR) rfl ?_
  exact ⟨a,c,sv,hs,.slice none 0 0,.slice none 0 0,rfl,(HG0.out.below ((Below.refl _ w).alloc lR _)).wide (λb _ k=>⟨.inl k,(λe=>by cases e),λe=>by cases e⟩),(Only.refl Q w).alloc _,World.ownsRow_nil _ _ _ _,World.ownsRow_nil _ _ _ _⟩
 ·rw [show M.stepG G n=(G,M.no 2) by unfold M.stepG;rw [if_pos (.inr hn8)]]
  go_enter Tryz.func23,Tryz.ntmps23
  go_wp2
  refine bodyPost_ret (results_cell_row rfl _ _ _ _ _ _ _ rfl (heap_alloc_new w _) Tryz.underlying35 rfl kR) rfl ?_
  exact ⟨a,c,sv,hs,.slice none 0 0,.slice none 0 0,rfl,(HG0.out.below ((Below.refl _ w).alloc lR _)).wide (λb _ k=>⟨.inl k,(λe=>by cases e),λe=>by cases e⟩),(Only.refl Q w).alloc _,World.ownsRow_nil _ _ _ _,World.ownsRow_nil _ _ _ _⟩
 ·obtain ⟨N,rfl⟩:∃N:Nat,n=(N:Int):=⟨n.toNat,by omega⟩
  obtain ⟨dF,lF,hF⟩:∃d l,M.stepN N (G.w,[])=(d,l):=⟨_,_,rfl⟩
  rw [show M.stepG G (N:Int)=({G with w:=dF},⟨0,lF.length,[],lF⟩) by unfold M.stepG;rw [if_neg bO,show (N:Int).toNat=N by omega,hF]]
  have HF:=hI hF
  have HGW:=hI hG.w
  obtain ⟨i0,hi,hz0,hz1,hz2⟩:=info_parts infoPair
  clear hF hG
  go_enter Tryz.func23,Tryz.ntmps23
  go_wp2_with fail
  go_loopg [5,17] N (λgh o i wr=>∃(k:Nat) (d:M.Wd) (l:List M.Pr) (a:Option Addr) (c:Nat),k<=N/\i=.int .i64 k/\gh=N-k/\M.stepN k (G.w,[])=(d,l)/\l.length<=45*k/\GameAt wr (QS Q w o) g {G with w:=d} a c sv hs/\Only Q w wr/\Blk wr w.heap.size 35 #[.int .i64 0,.int .i64 0,.slice none 0 0,.slice none 0 0]/\wr.ownsRow (w.heap.size+1) 71 2 o l.length (l.flatMap pairL))
  case atStart=>
   exact ⟨0,G.w,[],a,c,Nat.zero_le _,rfl,rfl,rfl,Nat.le_refl _,(HG0.out.below ((Below.refl _ w).alloc lR _)).wide (λb _ k=>⟨.inl k,(by have:=HQ.out b k;omega),λe=>by cases e⟩),(Only.refl Q w).alloc _,Blk.new_at rfl,World.ownsRow_nil _ _ _ _⟩
  case round=>
   obtain ⟨wo,hwo⟩:∃wo,wo=wr:=⟨_,rfl⟩
   subst hwo
   obtain ⟨k,d,l,ao,co,hk,rfl,hgk,hst,hl,hga,hon,hb4,how⟩:=hrel
   obtain ⟨vo,vc,rfl⟩:=own_form how
   have HK:=hI hgk
   have HST:=hI hst
   have HGA:=hI hga
   have HON:=hI hon
   have HB4:=hI hb4
   have HOW:=hI how
   have kwo:w.heap.size<wo.heap.size:=hb4.lt
   clear hgk hst hga hon hb4 how
   rcases Nat.lt_or_ge k N with hlt|hge
   ·have gd:M.GoodWd d:=by
     have:=(M.stepN_good k (G.w,[]) HGW.out).1
     rw [HST.out] at this
     exact this
    obtain ⟨d5,l5,c5k,hs5⟩:∃d' l' k,M.step d=(d',l',k):=⟨_,_,_,rfl⟩
    have hk0:=(M.step_kept gd).1
    have hf5:=M.step_few gd
    rw [hs5] at hk0 hf5
    simp only at hk0 hf5
    subst hk0
    have HLAST:Hid (M.stepN (k+1) (G.w,[])=(d5,l++l5)):=hI (by rw [M.stepN_last,HST.out];simp only [hs5])
    have HSP:=hI (λU (hb:Below wo.heap.size wo U)=>step_calls2 (P:=InG (QS Q w (.slice vo l.length vc)) g sv) (a:=ao) (c:=co) (d:=d) (HGA.out.st.step hb.size (λb h1 _=>hb.block b h1)) (good_in gd.things) hs5)
    have g0:=HGA.out.blk.cell 0
    have g1:=HGA.out.blk.cell 1
    have g2:=HGA.out.blk.cell 2
    have g3:=HGA.out.blk.cell 3
    have g4:=HGA.out.blk.cell 4
    simp at g0 g1 g2 g3 g4
    have lgo:=HGA.out.blk.lt
    clear gd hs5
    go_upto_region 7 with (go_at_call 49;go_loud (refine (HSP.out _ bel9).mono ?_;rintro e w5 ⟨a5,c5,v5,rfl,hr5,ho5,hb5⟩;obtain ⟨v5a,v5c,rfl⟩:=own_form ho5;have HR5:=hI hr5;have HO5:=hI ho5;have K5:=hb5;have hz5:=hb5.size;clear hr5 ho5))
    refine wp_called (λW2 hW2=>?_)
    have K2:Below wo.heap.size wo W2:=by rw [hW2];exact bel9
    have K52:Below w5.heap.size w5 W2:=by rw [hW2];exact bel9
    have b6:Blk W2 w5.heap.size 53 #[.slice a5 d5.things.tables.length c5,.int .i64 d5.things.next,.int .i64 d5.fall,.int .i64 d5.wide,.int .i64 d5.high]:=by rw [hW2];exact Blk.new_at rfl
    have HB6:=hI b6
    have HK2:=hI K2
    have HGA2:=hI (HGA.out.below K2)
    have HOW2:=hI (own_below HOW.out K2)
    have HO52:=hI (own_below HO5.out K52)
    have HR52:=hI (HR5.out.step K52.size (λb h1 _=>K52.block b h1))
    have kz2:=K2.size
    have l62:=b6.lt
    have CS:=hI (λW (hb:Below W2.heap.size W2 W)=>show W.cell? ⟨w5.heap.size,0,none⟩=some (.slice a5 d5.things.tables.length c5)/\W.cell? ⟨w5.heap.size,1,none⟩=some (.int .i64 d5.things.next)/\W.cell? ⟨w5.heap.size,2,none⟩=some (.int .i64 d5.fall)/\W.cell? ⟨w5.heap.size,3,none⟩=some (.int .i64 d5.wide)/\W.cell? ⟨w5.heap.size,4,none⟩=some (.int .i64 d5.high) from by
     have b:=HB6.out.below hb HB6.out.lt
     exact ⟨b.cell 0,b.cell 1,b.cell 2,b.cell 3,b.cell 4⟩)
    have hob:∀b,(Value.slice vo l.length vc).ownBlock=some b->w.heap.size+1<=b/\b<wo.heap.size:=λb e=>HOW.out.lt b e
    have HOB:=hI hob
    have HFAR:Hid (∀(U:World) (i j:Nat) (u:Value),(U.setCell ⟨g,i,none⟩ u).cell? ⟨w5.heap.size,j,none⟩=U.cell? ⟨w5.heap.size,j,none⟩):=hI (λU i j u=>World.cell?_setCell_far _ _ _ _ (by show g≠w5.heap.size;omega))
    have HF9:=hI (λ(U:World) (hU:W2.drew.grownBy U (Value.slice vo l.length vc).ownBlock)=>show (U.cell? ⟨w5.heap.size,0,none⟩=some (.slice a5 d5.things.tables.length c5)/\U.cell? ⟨w5.heap.size,1,none⟩=some (.int .i64 d5.things.next)/\U.cell? ⟨w5.heap.size,2,none⟩=some (.int .i64 d5.fall)/\U.cell? ⟨w5.heap.size,3,none⟩=some (.int .i64 d5.wide)/\U.cell? ⟨w5.heap.size,4,none⟩=some (.int .i64 d5.high))/\U.cell? ⟨g,0,none⟩=some (.slice ao d.things.tables.length co)/\U.cell? ⟨g,1,none⟩=some (.int .i64 d.things.next)/\U.cell? ⟨g,2,none⟩=some (.int .i64 d.fall)/\U.cell? ⟨g,3,none⟩=some (.int .i64 d.wide)/\U.cell? ⟨g,4,none⟩=some (.int .i64 d.high)/\(∀i,U.frozen? ⟨g,i,none⟩=false)/\g<U.heap.size from by
     have b:=Blk.grown HB6.out.drew hU (λe=>by have:=hob _ e;omega)
     have bg:=Blk.grown HGA2.out.blk.drew hU (λe=>by have:=hob _ e;omega)
     exact ⟨⟨b.cell 0,b.cell 1,b.cell 2,b.cell 3,b.cell 4⟩,bg.cell 0,bg.cell 1,bg.cell 2,bg.cell 3,bg.cell 4,λi=>bg.free i,bg.lt⟩)
    clear hW2 K2 K52 b6 K5 hb5 g0 g1 g2 g3 g4 HSP hob
    go_region_held3 (λW=>W.cell? ⟨w5.heap.size,0,none⟩=some (.slice a5 d5.things.tables.length c5)/\W.cell? ⟨w5.heap.size,1,none⟩=some (.int .i64 d5.things.next)/\W.cell? ⟨w5.heap.size,2,none⟩=some (.int .i64 d5.fall)/\W.cell? ⟨w5.heap.size,3,none⟩=some (.int .i64 d5.wide)/\W.cell? ⟨w5.heap.size,4,none⟩=some (.int .i64 d5.high)) (first|(with_reducible exact CS.out _ (Below.refl _ _))|(with_reducible exact CS.out _ (Below.refl _ _).drew)|(with_reducible exact hS9)|(simp only [HFAR.out];with_reducible exact hS9)) ((refine step_append_own_any2 (by rfl) rfl (.tmp 30) (.tmp 31) 33 rfl (w.heap.size+1) 71 i0 _ 2 16 Tryz.underlying33 hi hz0 hz1 hz2 rfl bO _ l.length _ (show W2.drew.ownsRow _ _ _ _ _ _ from HOW2.out) (by rfl) _ wo.heap.size l5.length _ (show W2.drew.ownsRow _ _ _ _ _ _ from HO52.out) (by rfl) (pairs_one l5) (by unfold maxLen;omega) bO (by show w.heap.size+1<=W2.heap.size;omega) ?_;intro v9 w9 hown9 hg9 hat9;have HO9:=hI hown9;have HG9:=hI hg9;have HA9:=hI hat9;obtain ⟨hS9,gg0,gg1,gg2,gg3,gg4,ggf,ggl⟩:=HF9.out _ hg9;clear hown9 hg9 hat9))
    all_goals
     go_wp2_with fail
     go_roundg (N-(k+1))
     case measure=>rw [HK.out];omega
     case rel=>
      have far:∀(c0 c1 c2 c3 c4:Value) b,b≠g->(((((w9.setCell ⟨g,0,none⟩ c0).setCell ⟨g,1,none⟩ c1).setCell ⟨g,2,none⟩ c2).setCell ⟨g,3,none⟩ c3).setCell ⟨g,4,none⟩ c4).heap[b]?=w9.heap[b]?:=λc0 c1 c2 c3 c4 b hb=>
       ((((bS _ _ _ b hb).trans (bS _ _ _ b hb)).trans (bS _ _ _ b hb)).trans (bS _ _ _ b hb)).trans (bS _ _ _ b hb)
      have old:∀b,b<W2.heap.size->(Value.slice vo l.length vc).ownBlock≠some b->w9.heap[b]?=W2.heap[b]?:=λb h1 h2=>HG9.out.block b h1 (λe=>h2 e.symm)
      have hz9:W2.heap.size<=w9.heap.size:=HG9.out.size
      have hO2:Only Q w W2:=HON.out.more HK2.out
      have hO9:Only Q w w9:=⟨HG9.out.os.trans hO2.os,HG9.out.tape.trans hO2.tape,HG9.out.output.trans hO2.output,Nat.le_trans hO2.size HG9.out.size,λb hb hq=>(old b bO (λe=>by have:=HOB.out b e;omega)).trans (hO2.block b hb hq)⟩
      have bg9:=Blk.grown HGA2.out.blk.drew HG9.out (λe=>by have:=HOB.out _ e;omega)
      refine ⟨k+1,d5,l++l5,a5,c5,by omega,by go_num,rfl,HLAST.out,by rw [List.length_append];omega,?_,?_,?_,?_⟩
      ·have h1:GameAt wo (λb=>QS Q w (.slice vo l.length vc) b/\b<W2.heap.size) g {G with w:=d} ao co sv hs:=HGA.out.wide (λb hb q=>⟨q,by omega⟩)
       refine (h1.upd (G':={G with w:=d5}) (a':=a5) (c':=c5) sW (λb hb q hne=>(far _ _ _ _ _ b hne).trans ((old b bO q.1.2.2).trans (HK2.out.block b hb))) (blk_to (((((bg9.put 0 _).put 1 _).put 2 _).put 3 _).put 4 _) (by rfl)) rfl ?_).wide (λb _ q=>⟨q.1.1,q.1.2.1,λe=>?_⟩)
       ·refine (HR52.out.wide (R:=InG (λb=>QS Q w (.slice vo l.length vc) b/\b<W2.heap.size) g sv) (λb hb q=>?_)).step sW (λb hb q=>(far _ _ _ _ _ b q.2.1).trans (old b hb q.1.1.2.2))
        rcases q.1 with k|k
        ·exact ⟨⟨k.1,hb⟩,k.2⟩
        ·exact ⟨⟨⟨.inr bO,by omega,λe=>by have:=HOB.out b e;omega⟩,hb⟩,by omega,λe=>by have:=(HGA.out.own.lt b e).2;omega⟩
       ·rcases HA9.out with k|k
        ·exact q.1.2.2 (k▸e)
        ·rw [k] at e
         simp only [Option.some.injEq] at e
         have:W2.drew.heap.size=W2.heap.size:=rfl
         have:=q.2
         omega
      ·exact ((((hO9.setCell (.inl HG0.out.inQ) _).setCell (.inl HG0.out.inQ) _).setCell (.inl HG0.out.inQ) _).setCell (.inl HG0.out.inQ) _).setCell (.inl HG0.out.inQ) _
      ·exact (((((Blk.grown (HB4.out.below HK2.out HB4.out.lt).drew HG9.out (λe=>by have:=HOB.out _ e;omega)).far ng2 _).far ng2 _).far ng2 _).far ng2 _).far ng2 _
      ·rw [List.length_append,List.flatMap_append]
       exact own_same HO9.out (λb e=>far _ _ _ _ _ b (by have:=(HO9.out.lt b e).1;omega))
   ·obtain rfl:k=N:=by omega
    obtain ⟨rfl,rfl⟩:d=dF/\l=lF:=by
     have:=HST.out.symm.trans HF.out
     simpa using this
    have q9:decide ((k:Int)<(k:Int))=false:=decide_eq_false bO
    have y0:=HB4.out.cell 0
    have y1:=HB4.out.cell 1
    have y2:=HB4.out.cell 2
    have y3:=HB4.out.cell 3
    have yf:=λi=>HB4.out.free i
    simp at y0 y1 y2 y3
    go_wp2_with fail
    refine bodyPost_ret (results_cell_row rfl _ _ _ _ _ _ _ rfl (reply_blk HB4.out _ _ _ _) Tryz.underlying35 rfl kR) rfl ?_
    have far:∀(c0 c1 c2 c3:Value) b,b≠w.heap.size->((((wo.setCell ⟨w.heap.size,0,none⟩ c0).setCell ⟨w.heap.size,1,none⟩ c1).setCell ⟨w.heap.size,2,none⟩ c2).setCell ⟨w.heap.size,3,none⟩ c3).heap[b]?=wo.heap[b]?:=λc0 c1 c2 c3 b hb=>
     (((bS _ _ _ b hb).trans (bS _ _ _ b hb)).trans (bS _ _ _ b hb)).trans (bS _ _ _ b hb)
    exact ⟨ao,co,sv,hs,.slice none 0 0,.slice vo l.length vc,rfl,(HGA.out.keep (by simp [World.setCell]) (λb _ q=>far _ _ _ _ b q.2.1)).wide (λb _ q=>⟨q.1,(λe=>by cases e),q.2.2⟩),(((HON.out.setCell (.inr lR) _).setCell (.inr lR) _).setCell (.inr lR) _).setCell (.inr lR) _,World.ownsRow_nil _ _ _ _,own_lower (own_same HOW.out (λb e=>far _ _ _ _ b (by have:=(HOW.out.lt b e).1;omega))) bO⟩
def M.seen (l:List M.Box) (b:M.Box):List Int:=(l.filter λa=>M.meetB a b).map (·.id)
theorem M.seen_step {l:List M.Box} {n:Nat} {A:M.Box} (b:M.Box) (h:l[n]?=some A):M.seen (l.take (n+1)) b=M.seen (l.take n) b++(if M.meetB A b=true then [A.id] else []):=by
 unfold M.seen
 rw [List.take_add_one,h,List.filter_append,List.map_append]
 simp only [Option.toList_some,List.filter_cons,List.filter_nil]
 split<;>rfl
theorem M.seen_len (l:List M.Box) (b:M.Box) (n:Nat):(M.seen (l.take n) b).length<=n:=by
 unfold M.seen
 rw [List.length_map]
 exact Nat.le_trans (List.length_filter_le _ _) (List.length_take_le _ _)
theorem look_calls {w:World} {lo:Nat} {v:Value} {l:List M.Box} (h:BoxesAt5 w lo v l) (hin:∀b∈l,BoxIn b) (hl:l.length<=1048576) (b:M.Box):
  Calls Tryz.prog 24 #[v,boxV b] w λe w'=>∃v',e=.returned v'/\w'.ownsRow w.heap.size 3 1 v' (M.lookB l b).length ((M.lookB l b).map (Value.int .i64))/\Below w.heap.size w w':=by
 have HGD:=hI (λW (hb:Below w.heap.size w W)=>goodB_calls (h.below hb) hin)
 have HBX:=hI h
 obtain ⟨av,cv,rfl⟩:=h.val
 obtain ⟨i0,hi,hz0,hz1,hz2⟩:=info_parts infoInt
 have HI:=hI (And.intro hi (And.intro hz0 (And.intro hz1 hz2)))
 have hlm:l.length<=9223372036854775807:=by omega
 obtain ⟨q,hq⟩:∃q,M.goodB l=q:=⟨_,rfl⟩
 rw [hq] at HGD
 have HQ:=hI hq
 clear h hin hi hz0 hz1 hz2 hq
 cases q
 ·have e:M.lookB l b=[]:=by unfold M.lookB;rw [HQ.out];rfl
  rw [e]
  go_enter Tryz.func24,Tryz.ntmps24
  go_wp2_with (go_at_call 50;go_loud (refine (HGD.out _ bel9).mono ?_;rintro e w1 ⟨rfl,hb1⟩;have K1:Below w.heap.size w w1:=(show Below w.heap.size w _ from bel9).trans (hb1.mono sid9);have kz1:=K1.size;have hz1:=hb1.size;(try simp at hz1);have bb1:Blk w1 w.heap.size 40 (boxC b):=(Blk.new w 40 (boxC b)).below hb1 sS))
  go_ret
  exact ⟨_,rfl,World.ownsRow_nil _ _ _ _,K1⟩
 ·have HLK:Hid (M.lookB l b=(M.seen l b).mergeSort (λa b=>decide (a<=b))):=hI (by unfold M.lookB;rw [HQ.out];rfl)
  obtain ⟨lk,hlk⟩:∃k,M.lookB l b=k:=⟨_,rfl⟩
  rw [hlk]
  have HLN:=hI hlk
  clear hlk
  go_enter Tryz.func24,Tryz.ntmps24
  go_wp2_with (go_at_call 50;go_loud (refine (HGD.out _ bel9).mono ?_;rintro e w1 ⟨rfl,hb1⟩;have K1:Below w.heap.size w w1:=(show Below w.heap.size w _ from bel9).trans (hb1.mono sid9);have kz1:=K1.size;have hz1:=hb1.size;(try simp at hz1);have bb1:Blk w1 w.heap.size 40 (boxC b):=(Blk.new w 40 (boxC b)).below hb1 sS))
  have HB1:=hI bb1
  have HK1:=hI K1
  clear K1 hb1 bb1
  go_loopg [5,13] l.length (λg o i wr=>∃n:Nat,n<=l.length/\i=.int .i64 n/\g=l.length-n/\wr.ownsRow w.heap.size 3 1 o (M.seen (l.take n) b).length ((M.seen (l.take n) b).map (Value.int .i64))/\Below w.heap.size w wr/\Blk wr w.heap.size 40 (boxC b)/\(∀k,o.ownBlock=some k->w.heap.size<k))
  case atStart=>exact ⟨0,Nat.zero_le _,rfl,rfl,World.ownsRow_nil _ _ _ _,HK1.out,HB1.out,λk e=>by cases e⟩
  case round=>
   obtain ⟨wo,hwo⟩:∃wo,wo=wr:=⟨_,rfl⟩
   subst hwo
   obtain ⟨n,hn,rfl,hgk,ho,hb,hbb,hov⟩:=hrel
   have HB:=hI hb
   have HK:=hI hgk
   have HO:=hI ho
   have HBB:=hI hbb
   have HOV:=hI hov
   have kzo:=hb.size
   have lbb:=hbb.lt
   clear hgk ho hov
   rcases Nat.lt_or_ge n l.length with hlt|hge
   ·obtain ⟨A,hA⟩:∃A,l[n]?=some A:=⟨_,List.getElem?_eq_getElem hlt⟩
    obtain ⟨b1,o1,c1,e1,_,i0',i1,i2,i3,i4⟩:=(HBX.out.below HB.out).at5 hA
    obtain ⟨rfl,rfl⟩:av=some ⟨b1,o1,none⟩/\cv=c1:=by simpa using e1
    have y0:=hbb.cell 0
    have y1:=hbb.cell 1
    have y2:=hbb.cell 2
    have y3:=hbb.cell 3
    have y4:=hbb.cell 4
    simp at y0 y1 y2 y3 y4
    have HS:=hI (M.seen_step b hA)
    have HL:Hid ((M.seen (l.take n) b).length+1<=1048577):=hI (by have:=M.seen_len l b n;omega)
    have HME:=hI (λU=>meetB_calls A b U)
    clear e1 hA hb hbb
    cases hm:M.meetB A b
    ·rw [hm] at HME HS
     clear hm
     go_wp2_with (go_at_call 51;go_loud (refine (HME.out _).mono ?_;rintro e w6 ⟨rfl,hb6⟩;have K6:Below wo.heap.size wo w6:=(show Below wo.heap.size wo _ from bel9).trans (hb6.mono sid9);have kz6:=K6.size;have hz6:=hb6.size;(try simp at hz6);have ba6:Blk w6 wo.heap.size 40 (boxC A):=(Blk.new wo 40 (boxC A)).below hb6 sS;have aq0:=ba6.cell 0;simp at aq0;have la6:=ba6.lt))
     go_roundg (l.length-(n+1))
     case measure=>rw [HK.out];omega
     case rel=>
      have K6':Below wo.heap.size wo _:=K6
      refine ⟨n+1,by omega,by go_num,rfl,?_,HB.out.trans (K6.mono kzo),HBB.out.below K6 HBB.out.lt,HOV.out⟩
      rw [HS.out]
      simpa using own_below HO.out K6
    ·rw [hm] at HME HS
     clear hm
     go_wp2_with (first|(go_at_call 51;go_loud (refine (HME.out _).mono ?_;rintro e w6 ⟨rfl,hb6⟩;have K6:Below wo.heap.size wo w6:=(show Below wo.heap.size wo _ from bel9).trans (hb6.mono sid9);have kz6:=K6.size;have hz6:=hb6.size;(try simp at hz6);have ba6:Blk w6 wo.heap.size 40 (boxC A):=(Blk.new wo 40 (boxC A)).below hb6 sS;have aq0:=ba6.cell 0;simp at aq0;have la6:=ba6.lt))|(at_builtin;refine wpList_append_own_at _ rfl (.tmp 20) (.tmp 23) _ rfl w.heap.size 3 i0 _ 1 8 Tryz.underlying32 HI.out.1 HI.out.2.1 HI.out.2.2.1 HI.out.2.2.2 rfl bO _ _ _ rfl (own_below HO.out (show Below wo.heap.size wo _ from bel9)) ⟨w6.heap.size,0,none⟩ 1 1 [.int .i64 A.id] rfl rfl (by intro j u hu;match j,hu with|0,hu=>(simp at hu;subst hu;rw [Addr.add_lit];simp)|j+1,hu=>simp at hu) (by intro u hu;simp at hu;subst hu;rfl) (by have:=HL.out;unfold maxLen;omega) (by have:=HL.out;omega) sO ?_;intro v9 w9 hown9 hg9 _ hat9;have HO9:=hI hown9;have HB9:Hid (Below w.heap.size w w9):=hI ((HB.out.trans ((show Below wo.heap.size wo _ from bel9).mono kzo)).grown hg9 sO (λk hk=>(HO.out.lt k hk).1));have HG9:=hI hg9;have HA9:=hI hat9;clear hown9 hg9 hat9))
     go_roundg (l.length-(n+1))
     case measure=>rw [HK.out];omega
     case rel=>
      refine ⟨n+1,by omega,by go_num,rfl,?_,HB9.out,?_,?_⟩
      ·have:=HO9.out
       rw [HS.out]
       simpa using this
      ·have bb:=(HBB.out.below K6 HBB.out.lt).alloc (.cells #[Value.int IntKind.i64 A.id] 3)
       exact (HG9.out.block _ bb.lt (λe=>by have:=HOV.out _ e.symm;omega)).trans bb
      ·intro k e
       rcases HA9.out with q|q
       ·exact HOV.out k (q▸e)
       ·rw [q] at e
        simp at e
        omega
   ·obtain rfl:n=l.length:=by omega
    rw [List.take_length] at HO
    have hsl:(M.seen l b).length<=1048576:=by have:=M.seen_len l b l.length;rw [List.take_length] at this;omega
    have HSO:=hI (sort_own HO.out bO kzo)
    have q9:decide ((l.length:Int)<(l.length:Int))=false:=decide_eq_false bO
    clear hsl hb hbb
    go_wp2_with (go_at_call 52;go_loud (refine HSO.out.mono ?_;rintro e w5 ⟨rfl,ho5,hb5⟩))
    go_ret
    refine ⟨_,rfl,?_,HB.out.trans hb5⟩
    rw [←HLN.out,HLK.out]
    simpa using ho5
theorem do_look {w:World} {Q:Nat->Prop} {g:Nat} {G:M.Game} {a:Option Addr} {c:Nat} {sv:Value} {hs:List Value} (h:GameAt w Q g G a c sv hs) (hq:∀b,Q b->b<w.heap.size) (hG:M.GoodG G) (kind id n mask:Int) (row:M.Row) (box:M.Box) (hk:kind=9) (h0:0<=G.acts) (hlt:G.acts<150) (hx:ActIn ⟨kind,id,n,mask,row,box⟩):
  Calls Tryz.prog 9 #[.pointer (some ⟨g,0,none⟩),actV ⟨kind,id,n,mask,row,box⟩] w (DoPost Q w g (M.doAct G ⟨kind,id,n,mask,row,box⟩).1 (M.doAct G ⟨kind,id,n,mask,row,box⟩).2):=by
 have hres:M.doAct G ⟨kind,id,n,mask,row,box⟩=(more G,⟨0,0,M.lookB (M.boxes G.w.things) box,[]⟩):=by
  unfold M.doAct
  rw [if_neg bO]
  simp only
  rw [if_neg bO,if_neg bO,if_neg bO,if_neg bO,if_neg bO,if_neg bO,if_neg bO,if_pos hk]
 rw [hres]
 subst hk
 clear hres
 have HGS:=hI hG.w.things
 obtain ⟨lk,hlk⟩:∃k,M.lookB (M.boxes G.w.things) box=k:=⟨_,rfl⟩
 rw [hlk]
 have HLK:=hI hlk
 clear hlk
 obtain ⟨HG0,HQ,g0,g1,g6,gf,lg,nl1,nl2,nl3,nl4⟩:=do_first h hq
 clear h hq
 go_enter Tryz.func9,Tryz.ntmps9
 go_upto_region 9 with (fail)
 refine wp_called (λW2 hW2=>?_)
 obtain ⟨HZ2,hz2,HO2,HG2,HNQ,⟨x0,x1,x2,x3,x4,x5,x6,x7,x8,x9,x10,x11,x12,x13,x14,x15,x16⟩,⟨s0,s1⟩,⟨y0,y1,y2,y3⟩,yf,⟨gw0,gw1,gw2,gw3,gw4,gw5,gw6⟩,gff,l2g,l23,l24,l27,HB3,HB4,HB7,HBG⟩:=do_facts HG0.out HQ.out hW2
 have HIN:=hI (good_in hG.w.things)
 clear hW2 g0 g1 g6 gf
 have CS:=hI (λW (hb:Below W2.heap.size W2 W)=>show W.cell? ⟨w.heap.size+2,0,none⟩=some (.slice a G.w.things.tables.length c)/\W.cell? ⟨w.heap.size+2,1,none⟩=some (.int .i64 G.w.things.next)/\W.cell? ⟨w.heap.size,12,none⟩=some (.int .i64 box.id)/\W.cell? ⟨w.heap.size,13,none⟩=some (.int .i64 box.x1)/\W.cell? ⟨w.heap.size,14,none⟩=some (.int .i64 box.y1)/\W.cell? ⟨w.heap.size,15,none⟩=some (.int .i64 box.x2)/\W.cell? ⟨w.heap.size,16,none⟩=some (.int .i64 box.y2) from by
  have b3:=HB3.out.below hb HB3.out.lt
  have b7:=HB7.out.below hb HB7.out.lt
  exact ⟨b7.cell 0,b7.cell 1,b3.cell 12,b3.cell 13,b3.cell 14,b3.cell 15,b3.cell 16⟩)
 have HBO:=hI (λU (hb:Below W2.heap.size W2 U)=>worldBoxes_calls (HG2.out.st.at_.below hb) HGS.out)
 have HLO:=hI (λ(U:World) (m:Nat) (v:Value) (ho:U.ownsRow m 40 5 v (M.boxes G.w.things).length ((M.boxes G.w.things).flatMap boxL))=>look_calls (Lies.of_owns ho) (boxes_in HGS.out) (by
  have:(M.boxes G.w.things).length<=10:=by unfold M.boxes;rw [List.length_map];exact M.query_few HGS.out 5
  omega) box)
 rw [HLK.out] at HLO
 have HFAR:Hid (∀(U:World) (i j:Nat) (u:Value),(U.setCell ⟨w.heap.size+1,i,none⟩ u).cell? ⟨w.heap.size,j,none⟩=U.cell? ⟨w.heap.size,j,none⟩/\(U.setCell ⟨w.heap.size+1,i,none⟩ u).cell? ⟨w.heap.size+2,j,none⟩=U.cell? ⟨w.heap.size+2,j,none⟩):=hI (λU i j u=>⟨World.cell?_setCell_far _ _ _ _ (by show w.heap.size+1≠w.heap.size;omega),World.cell?_setCell_far _ _ _ _ (by show w.heap.size+1≠w.heap.size+2;omega)⟩)
 clear hG hx
 go_upto_region 35 with (fail)
 clear x0 x1 x2 x3 x4 x5 x6 x7 x8 x9 x10 x11 x12 x13 x14 x15 x16 s0 s1 gw0 gw1 gw2 gw3 gw4 gw5 gw6 gff y0 y1 y2 y3 yf
 go_region_held3 (λW=>W.cell? ⟨w.heap.size+2,0,none⟩=some (.slice a G.w.things.tables.length c)/\W.cell? ⟨w.heap.size+2,1,none⟩=some (.int .i64 G.w.things.next)/\W.cell? ⟨w.heap.size,12,none⟩=some (.int .i64 box.id)/\W.cell? ⟨w.heap.size,13,none⟩=some (.int .i64 box.x1)/\W.cell? ⟨w.heap.size,14,none⟩=some (.int .i64 box.y1)/\W.cell? ⟨w.heap.size,15,none⟩=some (.int .i64 box.x2)/\W.cell? ⟨w.heap.size,16,none⟩=some (.int .i64 box.y2)) (first|((with_reducible refine CS.out _ ?_);(repeat first|with_reducible exact Below.refl _ _|with_reducible apply Below.drew|with_reducible apply Below.alloc (hB:=sid9)|with_reducible refine Below.trans ?_ (Below.mono (B':=W2.heap.size) hb6 sid9)|with_reducible refine Below.trans ?_ (Below.mono (B':=W2.heap.size) hb5 sid9));done)|(have hS6:=CS.out w6 bR3;simp only [(HFAR.out _ _ _ _).1,(HFAR.out _ _ _ _).2];with_reducible exact hS6)) (first|(go_at_call 25;with_reducible refine (HBO.out _ bR3).mono ?_;rintro e w5 ⟨v5,rfl,ho5,hb5⟩;obtain ⟨a5,c5,rfl⟩:=own_form ho5;have HO5:=hI ho5;have hz5:=hb5.size;(try simp at hz5);clear ho5)|(go_at_call 24;refine (HLO.out _ _ _ HO5.out).mono ?_;rintro e w6 ⟨v6,rfl,ho6,hb6⟩;obtain ⟨a6,c6,rfl⟩:=own_form ho6;have HO6:=hI ho6;have hz6:=hb6.size;(try simp at hz6);have K6:Below W2.heap.size W2 w6:=bR3;have b46:=HB4.out.below K6 HB4.out.lt;have HB46:=hI b46;have y0:=b46.cell 0;have y1:=b46.cell 1;have y2:=b46.cell 2;have y3:=b46.cell 3;have yf:=(λi=>b46.free i);simp at y0 y1 y2 y3;have ly:=b46.lt;clear ho6 b46))
 all_goals
  go_wp2_with fail
  refine bodyPost_ret (results_cell_row rfl _ _ _ _ _ _ _ rfl (reply_blk HB46.out _ _ _ _) Tryz.underlying35 rfl kR) rfl ?_
  refine do_end2 (a:=a) (c:=c) (sv:=sv) (hs:=hs) (m:=W2.heap.size) (ids:=.slice a6 lk.length c6) (met:=.slice none 0 0) ?_ (HO2.out.more K6) bO ⟨0,0,lk,[]⟩ (own_lower HO6.out bO) oN _ _ _ _
  exact (HG2.out.wide (R:=λb=>((QD Q w b/\b<W2.heap.size)\/W2.heap.size<=b)/\(Value.slice a6 lk.length c6).ownBlock≠some b/\(Value.slice none 0 0).ownBlock≠some b) (λb hb k=>⟨.inl ⟨k,hb⟩,(λe=>by have:=(HO6.out.lt b e).1;omega),λe=>by cases e⟩)).below K6
end Go.Proofs.YtemkbjaojinaoaaGreat
