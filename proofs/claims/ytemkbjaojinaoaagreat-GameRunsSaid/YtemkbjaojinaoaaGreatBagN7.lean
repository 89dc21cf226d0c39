/- Several small texts in one. No condition of its own: each part says its own. -/
import Derived.Test.YtemkbjaojinaoaaGreatShort
import Derived.Test.YtemkbjaojinaoaaGreatBagN4
import Derived.Test.YtemkbjaojinaoaaGreatRefDo4
import Derived.Test.YtemkbjaojinaoaaGreatRefDo5
import Derived.Test.YtemkbjaojinaoaaGreatBagN6
import Derived.Test.YtemkbjaojinaoaaGreatBagP
import Derived.Test.YtemkbjaojinaoaaGreatBagA
set_option linter.unusedVariables false
set_option linter.unusedSimpArgs false
set_option maxRecDepth 100000
namespace Go.Proofs.YtemkbjaojinaoaaGreat
open Go.RowKit
theorem rdo_calls {w:World} {R:Nat->Prop} {g:Nat} {G:M.Game} {b:Nat} {sv:Value} {hs:List Nat} (h:RefAt w R g G b sv hs) (hR:∀y,R y->y<w.heap.size) (hG:M.InDoc G) (x:M.Act) (hx:ActIn x):
  Calls Tryz.prog 10 #[.pointer (some ⟨g,0,none⟩),actV x] w (RefPost R w g (M.doAct G x).1 (M.doAct G x).2):=by
 have gs:=hG.good.w.things
 have h0:=hG.lo
 rcases Int.lt_or_le G.acts 150 with hlt|hge
 ·obtain ⟨kind,id,n,mask,row,box⟩:=x
  have two:M.at_ G.w.things id=none->M.doAct G ⟨2,id,n,mask,row,box⟩=(more G,M.no 3):=by
   intro hn
   rcases M.kill_two gs id with ⟨_,e2⟩|⟨p,e1,_⟩
   ·unfold M.doAct
    rw [if_neg bO]
    simp only
    rw [if_neg bO,if_pos trivial,e2]
    rfl
   ·rw [show M.at_ G.w.things id=some p from e1] at hn
    cases hn
  have three:(kind=3\/kind=4)->M.at_ G.w.things id=none->M.doAct G ⟨kind,id,n,mask,row,box⟩=(more G,M.no 3):=λhk hn=>by
   rw [M.doAct_change hlt hk,M.change_none2 gs ⟨kind,id,n,mask,row,box⟩ hn]
   rfl
  have five:kind=5->M.at_ G.w.things id=none->M.doAct G ⟨kind,id,n,mask,row,box⟩=(more G,M.no 3):=λhk hn=>by
   rw [M.doAct_kick hlt hk,M.kick_none gs ⟨kind,id,n,mask,row,box⟩ hn]
   rfl
  rcases (show kind=1\/kind=2\/kind=3\/kind=4\/kind=5\/kind=6\/kind=7\/kind=8\/kind=9\/(kind<1\/9<kind) by omega) with e|e|e|e|e|e|e|e|e|e
  ·exact rdo_spawn h hR hG.good kind id n mask row box e h0 hlt hx
  ·cases hp:M.at_ G.w.things id with
   |none=>exact rdo_none h hR hG.good kind id n mask row box (.inl e) hp (by subst e;exact two hp) h0 hlt hx
   |some p=>exact rdo_kill h hR hG.good kind id n mask row box e hp h0 hlt hx
  ·cases hp:M.at_ G.w.things id with
   |none=>exact rdo_none h hR hG.good kind id n mask row box (.inr (.inl e)) hp (three (.inl e) hp) h0 hlt hx
   |some p=>exact rdo_give h hR hG.good kind id n mask row box e hp h0 hlt hx
  ·cases hp:M.at_ G.w.things id with
   |none=>exact rdo_none h hR hG.good kind id n mask row box (.inr (.inr (.inl e))) hp (three (.inr e) hp) h0 hlt hx
   |some p=>exact rdo_take h hR hG.good kind id n mask row box e hp h0 hlt hx
  ·cases hp:M.at_ G.w.things id with
   |none=>exact rdo_none h hR hG.good kind id n mask row box (.inr (.inr (.inr e))) hp (five e hp) h0 hlt hx
   |some p=>exact rdo_kick h hR hG.good kind id n mask row box e hp h0 hlt hx
  ·exact rdo_step h hR hG.good kind id n mask row box e h0 hlt hx
  ·exact rdo_save h hR hG.good kind id n mask row box e hG.few h0 hlt hx
  ·exact rdo_load h hR hG.good kind id n mask row box e h0 hlt hx
  ·exact rdo_look h hR hG.good kind id n mask row box e h0 hlt hx
  ·exact rdo_other h hR hG.good kind id n mask row box e h0 hlt hx
 ·exact rdo_full h hR x (by have:=hG.hi;omega)
def RefPost2 (R:Nat->Prop) (w:World) (g:Nat) (G':M.Game) (r:M.Reply) (e:Ending) (w':World):Prop:=
 ∃(ai:Option Addr) (ci:Nat) (am:Option Addr) (cm:Nat) (R':Nat->Prop) (b:Nat) (sv:Value) (hs:List Nat),e=.returned (replyV r (.slice ai r.ids.length ci) (.slice am r.met.length cm))/\RefAt w' R' g G' b sv hs/\
  (∀y,R' y->(R y\/w.heap.size<=y)/\y<w'.heap.size)/\Only R w w'/\IntsAt w' 0 (.slice ai r.ids.length ci) r.ids/\PairsAt w' 0 (.slice am r.met.length cm) r.met
theorem rdo_calls2 {w:World} {R:Nat->Prop} {g:Nat} {G:M.Game} {b:Nat} {sv:Value} {hs:List Nat} (h:RefAt w R g G b sv hs) (hR:∀y,R y->y<w.heap.size) (hG:M.InDoc G) {x:M.Act} (hx:ActIn x) {G':M.Game} {r:M.Reply} (hd:M.doAct G x=(G',r)):
  Calls Tryz.prog 10 #[.pointer (some ⟨g,0,none⟩),actV x] w (RefPost2 R w g G' r):=by
 have k:=rdo_calls h hR hG x hx
 rw [hd] at k
 refine k.mono ?_
 rintro e w' ⟨b2,sv2,hs2,ids,met,rfl,hg,ho,hi,hm⟩
 obtain ⟨ai,ci,rfl⟩:=hi.val
 obtain ⟨am,cm,rfl⟩:=hm.val
 exact ⟨ai,ci,am,cm,λy=>(R y\/w.heap.size<=y)/\y<w'.heap.size,b2,sv2,hs2,rfl,hg.wide (λy hy q=>⟨q,hy⟩),λy q=>q,ho,hi,hm⟩
def Two (w W:World) (g rg:Nat) (G H:M.Game) (K:Nat->Prop):Prop:=
 ∃(Q R:Nat->Prop) (a:Option Addr) (c:Nat) (sv:Value) (hs:List Value) (b:Nat) (rv:Value) (rs:List Nat),
  GameAt W Q g G a c sv hs/\RefAt W R rg H b rv rs/\(∀x,Q x->w.heap.size<=x/\x<W.heap.size)/\(∀x,R x->w.heap.size<=x/\x<W.heap.size/\¬Q x/\¬K x)/\Below w.heap.size w W
def One (w W:World) (rg:Nat) (H:M.Game):Prop:=
 ∃(R:Nat->Prop) (b:Nat) (rv:Value) (rs:List Nat),RefAt W R rg H b rv rs/\(∀x,R x->w.heap.size<=x/\x<W.heap.size)/\Below w.heap.size w W
section
variable {w W U:World} {g rg:Nat} {G H G' H':M.Game} {K:Nat->Prop} {x:M.Act} {r:M.Reply}
theorem Two.bel (h:Two w W g rg G H K):Below w.heap.size w W:=by
 obtain ⟨_,_,_,_,_,_,_,_,_,_,_,_,_,k⟩:=h
 exact k
theorem One.bel (h:One w W rg H):Below w.heap.size w W:=by
 obtain ⟨_,_,_,_,_,_,k⟩:=h
 exact k
theorem Two.more (h:Two w W g rg G H K) (hb:Below W.heap.size W U):Two w U g rg G H K:=by
 obtain ⟨Q,R,a,c,sv,hs,b,rv,rs,h1,h2,h3,h4,h5⟩:=h
 have hz:=hb.size
 have hz5:=h5.size
 exact ⟨Q,R,a,c,sv,hs,b,rv,rs,h1.below hb,h2.below hb,λy q=>⟨(h3 y q).1,by have:=(h3 y q).2;omega⟩,λy q=>⟨(h4 y q).1,by have:=(h4 y q).2.1;omega,(h4 y q).2.2⟩,h5.trans (hb.mono hz5)⟩
theorem One.more (h:One w W rg H) (hb:Below W.heap.size W U):One w U rg H:=by
 obtain ⟨R,b,rv,rs,h2,h4,h5⟩:=h
 have hz:=hb.size
 have hz5:=h5.size
 exact ⟨R,b,rv,rs,h2.below hb,λy q=>⟨(h4 y q).1,by have:=(h4 y q).2;omega⟩,h5.trans (hb.mono hz5)⟩
theorem two_do (h:Two w W g rg G H (λ_=>False)) (hG:M.InDoc G) (hx:ActIn x) (hd:M.doAct G x=(G',r)):
  Calls Tryz.prog 9 #[.pointer (some ⟨g,0,none⟩),actV x] W λe W'=>∃ids met,e=.returned (replyV r ids met)/\Two w W' g rg G' H (λb=>ids.ownBlock=some b\/met.ownBlock=some b)/\
   W'.ownsRow 0 3 1 ids r.ids.length (r.ids.map (Value.int .i64))/\W'.ownsRow 0 71 2 met r.met.length (r.met.flatMap pairL):=by
 obtain ⟨Q,R,a,c,sv,hs,b,rv,rs,h1,h2,h3,h4,h5⟩:=h
 refine (do_calls2 h1 (λy q=>(h3 y q).2) hG.good hG.lo hx hd).mono ?_
 rintro e W' ⟨ai,ci,am,cm,Q',a2,c2,sv2,hs2,rfl,hg,hQ',ho,hi,hm⟩
 have hz:=ho.size
 have hz5:=h5.size
 refine ⟨_,_,rfl,⟨Q',R,a2,c2,sv2,hs2,b,rv,rs,hg,h2.only ho (λy q=>(h4 y q).2.2.1),λy q=>⟨?_,(hQ' y q).2.1⟩,λy q=>⟨(h4 y q).1,by have:=(h4 y q).2.1;omega,λk=>?_,λk=>?_⟩,h5.trans (ho.below hz5 (λy q=>(h3 y q).1))⟩,own_mono hi (Nat.zero_le _),own_mono hm (Nat.zero_le _)⟩
 ·rcases (hQ' y q).1 with k|k
  ·exact (h3 y k).1
  ·omega
 ·rcases (hQ' y k).1 with k|k
  ·exact (h4 y q).2.2.1 k
  ·have:=(h4 y q).2.1;omega
 ·have:=(h4 y q).2.1
  rcases k with k|k
  ·have:=(hi.lt y k).1;omega
  ·have:=(hm.lt y k).1;omega
theorem two_rdo (h:Two w W g rg G H K) (hH:M.InDoc H) (hx:ActIn x) (hd:M.doAct H x=(H',r)):
  Calls Tryz.prog 10 #[.pointer (some ⟨rg,0,none⟩),actV x] W λe W'=>∃ids met,e=.returned (replyV r ids met)/\Two w W' g rg G H' (λ_=>False)/\(∀b,b<W.heap.size->K b->W'.heap[b]?=W.heap[b]?)/\IntsAt W' 0 ids r.ids/\PairsAt W' 0 met r.met:=by
 obtain ⟨Q,R,a,c,sv,hs,b,rv,rs,h1,h2,h3,h4,h5⟩:=h
 refine (rdo_calls2 h2 (λy q=>(h4 y q).2.1) hH hx hd).mono ?_
 rintro e W' ⟨ai,ci,am,cm,R',b2,rv2,rs2,rfl,hg,hR',ho,hi,hm⟩
 have hz:=ho.size
 have hz5:=h5.size
 refine ⟨_,_,rfl,⟨Q,R',a,c,sv,hs,b2,rv2,rs2,h1.only ho (λy q k=>(h4 y k).2.2.1 q),hg,λy q=>⟨(h3 y q).1,by have:=(h3 y q).2;omega⟩,λy q=>⟨?_,(hR' y q).2,λk=>?_,λk=>k⟩,h5.trans (ho.below hz5 (λy q=>(h4 y q).1))⟩,λy h1 k=>ho.block y h1 (λq=>(h4 y q).2.2.2 k),hi,hm⟩
 ·rcases (hR' y q).1 with k|k
  ·exact (h4 y k).1
  ·omega
 ·rcases (hR' y q).1 with k2|k2
  ·exact (h4 y k2).2.2.1 k
  ·have:=(h3 y k).2;omega
theorem one_rdo (h:One w W rg H) (hH:M.InDoc H) (hx:ActIn x) (hd:M.doAct H x=(H',r)):
  Calls Tryz.prog 10 #[.pointer (some ⟨rg,0,none⟩),actV x] W λe W'=>∃ids met,e=.returned (replyV r ids met)/\One w W' rg H'/\IntsAt W' 0 ids r.ids/\PairsAt W' 0 met r.met:=by
 obtain ⟨R,b,rv,rs,h2,h4,h5⟩:=h
 refine (rdo_calls2 h2 (λy q=>(h4 y q).2) hH hx hd).mono ?_
 rintro e W' ⟨ai,ci,am,cm,R',b2,rv2,rs2,rfl,hg,hR',ho,hi,hm⟩
 have hz:=ho.size
 have hz5:=h5.size
 refine ⟨_,_,rfl,⟨R',b2,rv2,rs2,hg,λy q=>⟨?_,(hR' y q).2⟩,h5.trans (ho.below hz5 (λy q=>(h4 y q).1))⟩,hi,hm⟩
 rcases (hR' y q).1 with k|k
 ·exact (h4 y k).1
 ·omega
end
end Go.Proofs.YtemkbjaojinaoaaGreat
