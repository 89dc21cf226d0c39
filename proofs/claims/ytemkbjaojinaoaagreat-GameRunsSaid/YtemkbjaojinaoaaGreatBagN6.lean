/- Several small texts in one. No condition of its own: each part says its own. -/
import Derived.Test.YtemkbjaojinaoaaGreatShort
import Derived.Test.YtemkbjaojinaoaaGreatBagN4
import Derived.Test.YtemkbjaojinaoaaGreatBagH
import Derived.Test.YtemkbjaojinaoaaGreatBagSo2
import Derived.Test.YtemkbjaojinaoaaGreatBagX8
import Derived.Test.YtemkbjaojinaoaaGreatBagM4
import Derived.Test.YtemkbjaojinaoaaGreatLawAsks
import Derived.Deep.QuietTactic
import Derived.BigQuiet
import Derived.Maps.AppendAt
set_option linter.unusedVariables false
set_option linter.unusedSimpArgs false
set_option maxRecDepth 100000
set_option maxHeartbeats 8000000
namespace Go.Proofs.YtemkbjaojinaoaaGreat
open Go.RowKit
theorem rdo_step {w:World} {R:Nat->Prop} {g:Nat} {G:M.Game} {b:Nat} {sv:Value} {hs:List Nat} (h:RefAt w R g G b sv hs) (hR:∀y,R y->y<w.heap.size) (hG:M.GoodG G) (kind id n mask:Int) (row:M.Row) (box:M.Box) (hk:kind=6) (h0:0<=G.acts) (hlt:G.acts<150) (hx:ActIn ⟨kind,id,n,mask,row,box⟩):
  Calls Tryz.prog 10 #[.pointer (some ⟨g,0,none⟩),actV ⟨kind,id,n,mask,row,box⟩] w (RefPost R w g (M.doAct G ⟨kind,id,n,mask,row,box⟩).1 (M.doAct G ⟨kind,id,n,mask,row,box⟩).2):=by
 subst hk
 rw [M.doAct_step hlt rfl]
 show Calls _ _ _ _ (RefPost R w g (M.stepG (more G) n).1 (M.stepG (more G) n).2)
 by_cases hn:n<1\/8<n
 ·rw [show M.stepG (more G) n=(more G,M.no 2) by unfold M.stepG;rw [if_pos hn]]
  have hB:M.inB n 1 8=false:=by unfold M.inB;simp;omega
  obtain ⟨is,his⟩:∃t,(M.at_ G.w.things id).isSome=t:=⟨_,rfl⟩
  refine rdo_begin h _ hx.1.2.1 h0 hlt (λf gt W F A=>?_)
  obtain ⟨f0,f3,f4,f5,f6,f7⟩:=F
  simp only [his] at f7
  obtain ⟨x0,x1,x2,x3,x4,x5,x6,x7,x8,x9,x10,x11,x12,x13,x14,x15,x16⟩:=act_cells A.act
  obtain ⟨y0,y1,y2,y3⟩:=four_cells A.rep
  obtain ⟨g0,g1,g2,g3,g4,g5,g6⟩:=game_cells A.ref.blk
  obtain ⟨yf,gf,lx,ly,lg,gp,HREF,HO,HY,HBG,HM,ng1,ng2,ng3,ng4⟩:=rdo_facts A hR
  have HA:=hI A
  have HRR:=hI hR
  simp only [fr406,f0,f3,f4,f5,f6,f7]
  clear A
  conv=>arg 2;whnf
  clear f0 f3 f4 f5 f6 f7 h
  clear his
  have HB:=hI (λU=>inB_calls n 1 8 U)
  rw [hB] at HB
  clear hR hx
  go_wp2_with (first|(go_at_call 16;go_loud (refine (HB.out _).mono ?_;rintro e w' ⟨rfl,rfl⟩))|(go_at_call 26;go_loud (refine (rno2_calls _ HY.out (show Below W.heap.size W _ from bel9)).mono ?_;rintro e w9 ⟨rfl,K9,kz9,by9,z0,z1,z2,z3,zf⟩)))
  refine bodyPost_ret (results_cell_row rfl _ _ _ _ _ _ _ rfl (reply_blk by9 _ _ _ _) Tryz.underlying35 rfl kR) rfl ?_
  exact rdo_end (m:=W.heap.size) (HREF.out.below K9) HRR.out HM.out (HO.out.more K9) (M.no 2) oN oN _ _ _ _
 ·obtain ⟨N,rfl⟩:∃N:Nat,n=(N:Int):=⟨n.toNat,by omega⟩
  obtain ⟨dF,lF,hF⟩:∃d l,M.stepN N (G.w,[])=(d,l):=⟨_,_,rfl⟩
  rw [show M.stepG (more G) (N:Int)=({more G with w:=dF},⟨0,lF.length,[],lF⟩) by unfold M.stepG;rw [if_neg hn,show (N:Int).toNat=N by omega];show ({more G with w:=(M.stepN N (G.w,[])).1},_)=_;rw [show (more G).w=G.w from rfl,hF]]
  have hB:M.inB (N:Int) 1 8=true:=by unfold M.inB;simp;omega
  have hN:1<=N/\N<=8:=by omega
  have HF:=hI hF
  have HGW:=hI hG.w
  clear hF hn
  obtain ⟨is,his⟩:∃t,(M.at_ G.w.things id).isSome=t:=⟨_,rfl⟩
  refine rdo_begin h _ hx.1.2.1 h0 hlt (λf gt W F A=>?_)
  obtain ⟨f0,f3,f4,f5,f6,f7⟩:=F
  simp only [his] at f7
  obtain ⟨x0,x1,x2,x3,x4,x5,x6,x7,x8,x9,x10,x11,x12,x13,x14,x15,x16⟩:=act_cells A.act
  obtain ⟨y0,y1,y2,y3⟩:=four_cells A.rep
  obtain ⟨g0,g1,g2,g3,g4,g5,g6⟩:=game_cells A.ref.blk
  obtain ⟨yf,gf,lx,ly,lg,gp,HREF,HO,HY,HBG,HM,ng1,ng2,ng3,ng4⟩:=rdo_facts A hR
  have HA:=hI A
  have HRR:=hI hR
  simp only [fr406,f0,f3,f4,f5,f6,f7]
  clear A
  conv=>arg 2;whnf
  clear f0 f3 f4 f5 f6 f7 h
  clear his
  have HB:=hI (λU=>inB_calls (N:Int) 1 8 U)
  rw [hB] at HB
  clear hB
  obtain ⟨i0,hi,hz0,hz1,hz2⟩:=info_parts infoPair
  have HI:=hI (And.intro hi (And.intro hz0 (And.intro hz1 hz2)))
  clear hi hz0 hz1 hz2 hR hx
  go_upto_region 27 with (go_at_call 16;go_loud (refine (HB.out _).mono ?_;rintro e w' ⟨rfl,rfl⟩))
  have HR0:=hI HREF.out.map.2
  have HW0:Hid (Below W.heap.size W (W.alloc (.cells #[.int .i64 0,.int .i64 0,.slice none 0 0,.slice none 0 0] 35))):=hI bel9
  go_wp2_with fail
  go_loopg [129] N (λgh i wr=>∃(k:Nat) (d:M.Wd) (l:List M.Pr) (bb:Nat) (oa:Option Addr) (oc:Nat),k<=N/\i=.int .i64 k/\gh=N-k/\M.stepN k (G.w,[])=(d,l)/\l.length<=45*k/\Blk wr g 58 (refC bb sv {more G with w:=d})/\MapA wr bb (M.at_ d.things) (M.size d.things)/\(k=0\/W.heap.size<=bb)/\Only (Own9 g w) W wr/\Blk wr W.heap.size 35 #[.int .i64 0,.int .i64 0,.slice none 0 0,.slice oa l.length oc]/\wr.ownsRow (W.heap.size+1) 71 2 (.slice oa l.length oc) l.length (l.flatMap pairL)/\Blk wr (w.heap.size+1) 35 #[.int .i64 0,.int .i64 0,.slice none 0 0,.slice none 0 0]/\Blk wr w.heap.size 42 (actC ⟨6,id,(N:Int),mask,row,box⟩))
  case atStart=>
   refine ⟨0,G.w,[],b,none,0,Nat.zero_le _,rfl,rfl,rfl,Nat.le_refl _,HBG.out.below HW0.out lg,HREF.out.map.2.below HW0.out HREF.out.map.2.lt,.inl rfl,(Only.refl _ W).more HW0.out,Blk.new_at rfl,World.ownsRow_nil _ _ _ _,HY.out.below HW0.out ly,HA.out.act.below HW0.out lx⟩
  case round=>
   obtain ⟨wo,hwo⟩:∃wo,wo=wr:=⟨_,rfl⟩
   subst hwo
   obtain ⟨k,d,l,bb,oa,oc,hk,rfl,hgk,hst,hl,hga,hmp,hbb,hon,hb8,how,hby,hac⟩:=hrel
   have HK:=hI hgk
   have HST:=hI hst
   have HGA:=hI hga
   have HMP:=hI hmp
   have HBB:=hI hbb
   have HON:=hI hon
   have HB8:=hI hb8
   have HOW:=hI how
   have HBY:=hI hby
   have HAC:=hI hac
   have kwo:W.heap.size<wo.heap.size:=hb8.lt
   have lgo:=hga.lt
   have ng8:¬W.heap.size=g:=bO
   have lby:=hby.lt
   have lac:=hac.lt
   clear hgk hst hga hmp hbb hon hb8 how hby hac
   rcases Nat.lt_or_ge k N with hlt2|hge
   ·have gd:M.GoodWd d:=by
     have k9:=(M.stepN_good k (G.w,[]) HGW.out).1
     rw [HST.out] at k9
     exact k9
    obtain ⟨d5,l5,c5,hs5⟩:∃d1 l1 k1,M.step d=(d1,l1,k1):=⟨_,_,_,rfl⟩
    have hf5:=M.step_few gd
    have sk:=M.step_kept gd
    rw [hs5] at hf5 sk
    simp only at hf5 sk
    obtain ⟨_,kp,_,e2,e3,e4⟩:=sk
    have e1:=kp.next
    have HE:=hI (And.intro e1 (And.intro e2 (And.intro e3 e4)))
    have HLAST:Hid (M.stepN (k+1) (G.w,[])=(d5,l++l5)):=hI (by rw [M.stepN_last,HST.out];simp only [hs5])
    have HSP:=hI (λU (hb:Below wo.heap.size wo U)=>stepOf_good gd (HMP.out.below hb HMP.out.lt))
    rw [hs5] at HSP
    simp only at HSP
    clear gd hs5 kp e1 e2 e3 e4
    have g0:=HGA.out.cell 0
    have g1:=HGA.out.cell 1
    have g2:=HGA.out.cell 2
    have g3:=HGA.out.cell 3
    have g4:=HGA.out.cell 4
    simp at g0 g1 g2 g3 g4
    have gf:=λi=>HGA.out.free i
    go_upto_region 31 with (go_at_call 29;go_loud (refine (HSP.out _ bel9).mono ?_;rintro e w5 ⟨b5,pv,rfl,hm5,hb5,ho5,hbl5⟩;obtain ⟨pa,pc,rfl⟩:=own_form ho5;have HM5:=hI hm5;have HO5:=hI ho5;have K5:Below wo.heap.size wo w5:=(show Below wo.heap.size wo _ from bel9).trans (hbl5.mono sid9);have kz5:=K5.size;have bg5:=HGA.out.below K5 lgo;have gf5:=λi=>bg5.free i;have lg5:=bg5.lt;have g0:=bg5.cell 0;have g1:=bg5.cell 1;have g2:=bg5.cell 2;have g3:=bg5.cell 3;have g4:=bg5.cell 4;simp at g0 g1 g2 g3 g4;clear hm5 ho5))
    refine wp_called (λW2 hW2=>?_)
    have nb5:b5≠g:=ne_new lgo hb5
    have HK2:Hid (Only (Own9 g w) W W2):=hI (by rw [hW2];exact ((((((HON.out.more K5).setCell (p:=⟨g,0,none⟩) (.inl (.inl rfl)) _).setCell (p:=⟨g,1,none⟩) (.inl (.inl rfl)) _).setCell (p:=⟨g,2,none⟩) (.inl (.inl rfl)) _).setCell (p:=⟨g,3,none⟩) (.inl (.inl rfl)) _).setCell (p:=⟨g,4,none⟩) (.inl (.inl rfl)) _).alloc _)
    have HG2:Hid (Blk W2 g 58 (refC b5 sv {more G with w:=d5})):=hI (by rw [hW2];exact blk_to ((((((bg5.put 0 _).put 1 _).put 2 _).put 3 _).put 4 _).alloc _) (by simp [HE.out.1,HE.out.2.1,HE.out.2.2.1,HE.out.2.2.2]))
    have HM2:Hid (MapA W2 b5 (M.at_ d5.things) (M.size d5.things)):=hI (by rw [hW2];exact ((((((HM5.out).far (p:=⟨g,0,none⟩) nb5 _).far (p:=⟨g,1,none⟩) nb5 _).far (p:=⟨g,2,none⟩) nb5 _).far (p:=⟨g,3,none⟩) nb5 _).far (p:=⟨g,4,none⟩) nb5 _).alloc _)
    have far2:∀y,y≠g->y<w5.heap.size->W2.heap[y]?=w5.heap[y]?:=by intro y h1 h2;rw [hW2];exact (Below.heap_alloc _ _ _ (by simpa [World.setCell] using h2)).trans ((bS _ _ _ _ h1).trans ((bS _ _ _ _ h1).trans ((bS _ _ _ _ h1).trans ((bS _ _ _ _ h1).trans (bS _ _ _ _ h1)))))
    have far3:∀y,y≠g->y<wo.heap.size->W2.heap[y]?=wo.heap[y]?:=λy h1 h2=>(far2 y h1 (Nat.lt_of_lt_of_le h2 kz5)).trans (K5.block y h2)
    have HB82:Hid (Blk W2 W.heap.size 35 #[.int .i64 0,.int .i64 0,.slice none 0 0,.slice oa l.length oc]):=hI ((far3 _ ng8 kwo).trans HB8.out)
    have HBY2:Hid (Blk W2 (w.heap.size+1) 35 #[.int .i64 0,.int .i64 0,.slice none 0 0,.slice none 0 0]):=hI ((far3 _ ng4 lby).trans HBY.out)
    have HAC2:Hid (Blk W2 w.heap.size 42 (actC ⟨6,id,(N:Int),mask,row,box⟩)):=hI ((far3 _ ng2 lac).trans HAC.out)
    have HOW2:=hI (own_same (w':=W2) HOW.out (λy e=>far3 y (by have:=(HOW.out.lt y e).1;omega) (HOW.out.lt y e).2))
    have HO52:=hI (own_same (w':=W2) HO5.out (λy e=>far2 y (by have:=(HO5.out.lt y e).1;omega) (HO5.out.lt y e).2))
    have kz2:wo.heap.size<=W2.heap.size:=by rw [hW2];simp [World.setCell];omega
    have hob:∀y,(Value.slice oa l.length oc).ownBlock=some y->W.heap.size+1<=y/\y<wo.heap.size:=λy e=>HOW.out.lt y e
    have HOB:=hI hob
    clear hW2 far2 far3 hob bg5 gf5 g0 g1 g2 g3 g4 gf
    obtain ⟨u0,u1,u2,u3⟩:=four_cells HB82.out
    have uf:=λi=>HB82.out.free i
    have lu:=HB82.out.lt
    go_upto_region 32 with (at_builtin;go_loud (refine wpList_append_own_any rfl (.tmp 144) (.tmp 145) 33 rfl (W.heap.size+1) 71 i0 _ 2 16 Tryz.underlying33 HI.out.1 HI.out.2.1 HI.out.2.2.1 HI.out.2.2.2 rfl bO _ l.length _ rfl HOW2.out _ wo.heap.size l5.length _ rfl HO52.out (pairs_one l5) (by unfold maxLen;omega) bO bO ?_;intro v9 w9 hown9 hg9 hat9;obtain ⟨v9a,v9c,rfl⟩:=own_form hown9;have HO9:=hI hown9;have HG9:=hI hg9;have b89:=Blk.grown HB82.out hg9 (λe=>by have:=HOB.out _ e;omega);have u0:=b89.cell 0;have u1:=b89.cell 1;have u2:=b89.cell 2;have u3:=b89.cell 3;have uf:=λi=>b89.free i;simp at u0 u1 u2 u3;have lu9:=b89.lt;clear hown9 hat9))
    refine wp_called (λW3 hW3=>?_)
    have HK9:Hid (Only (Own9 g w) W w9):=hI ⟨HG9.out.os.trans HK2.out.os,HG9.out.tape.trans HK2.out.tape,HG9.out.output.trans HK2.out.output,Nat.le_trans HK2.out.size HG9.out.size,λy h1 h2=>(HG9.out.block y (Nat.lt_of_lt_of_le h1 HK2.out.size) (λe=>by have:=HOB.out y e.symm;omega)).trans (HK2.out.block y h1 h2)⟩
    have HK3:Hid (Only (Own9 g w) W W3):=hI (by rw [hW3];exact HK9.out.setCell (p:=⟨W.heap.size,3,none⟩) (.inr lR) _)
    have HGG3:Hid (Blk W3 g 58 (refC b5 sv {more G with w:=d5})):=hI (by rw [hW3];exact (Blk.grown HG2.out HG9.out (λe=>by have:=HOB.out _ e;omega)).far (p:=⟨W.heap.size,3,none⟩) (λe=>ng8 e.symm) _)
    have nb8:b5≠W.heap.size:=ne_new kwo hb5
    have HMM3:Hid (MapA W3 b5 (M.at_ d5.things) (M.size d5.things)):=hI (by rw [hW3];exact (MapAt.kept HM2.out HG9.out (λe=>by have:=HOB.out _ e.symm;omega)).far (p:=⟨W.heap.size,3,none⟩) nb8 _)
    have HB83:Hid (Blk W3 W.heap.size 35 #[.int .i64 0,.int .i64 0,.slice none 0 0,.slice v9a (l.length+l5.length) v9c]):=hI (by rw [hW3];exact blk_to (b89.put 3 _) (by rfl))
    have HBY3:Hid (Blk W3 (w.heap.size+1) 35 #[.int .i64 0,.int .i64 0,.slice none 0 0,.slice none 0 0]):=hI (by rw [hW3];exact (Blk.grown HBY2.out HG9.out (λe=>by have:=HOB.out _ e;omega)).far (p:=⟨W.heap.size,3,none⟩) (show w.heap.size+1≠W.heap.size by omega) _)
    have HAC3:Hid (Blk W3 w.heap.size 42 (actC ⟨6,id,(N:Int),mask,row,box⟩)):=hI (by rw [hW3];exact (Blk.grown HAC2.out HG9.out (λe=>by have:=HOB.out _ e;omega)).far (p:=⟨W.heap.size,3,none⟩) (show w.heap.size≠W.heap.size by omega) _)
    have HO3:=hI (own_same (w':=W3) HO9.out (λy e=>by have:=(HO9.out.lt y e).1;rw [hW3];exact bS _ _ _ _ (show y≠W.heap.size by omega)))
    clear hW3 u0 u1 u2 u3 uf b89
    go_wp2_with fail
    go_roundg (N-(k+1))
    case measure=>rw [HK.out];omega
    case rel=>exact ⟨k+1,d5,l++l5,b5,v9a,v9c,by omega,by go_num,rfl,HLAST.out,by rw [List.length_append];omega,HGG3.out,HMM3.out,.inr bO,HK3.out,by rw [List.length_append];exact HB83.out,by rw [List.length_append,List.flatMap_append];exact HO3.out,HBY3.out,HAC3.out⟩
   ·obtain rfl:k=N:=by omega
    obtain ⟨rfl,rfl⟩:d=dF/\l=lF:=by
     have k9:=HST.out.symm.trans HF.out
     simpa using k9
    have hb9:W.heap.size<=bb:=by rcases HBB.out with k9|k9<;>omega
    have q9:decide ((k:Int)<(k:Int))=false:=decide_eq_false bO
    obtain ⟨u0,u1,u2,u3⟩:=four_cells HB8.out
    have uf:=λi=>HB8.out.free i
    obtain ⟨y0,y1,y2,y3⟩:=four_cells HBY.out
    have yf:=λi=>HBY.out.free i
    have n81:¬W.heap.size=w.heap.size+1:=bO
    have n18:¬w.heap.size+1=W.heap.size:=bO
    go_wp2_with fail
    refine bodyPost_ret (results_cell_row rfl _ _ _ _ _ _ _ rfl (reply_blk (HBY.out.far (p:=⟨W.heap.size,1,none⟩) n18 _) _ _ _ _) Tryz.underlying35 rfl kR) rfl ?_
    have hK:=HON.out.setCell (p:=⟨W.heap.size,1,none⟩) (.inr lR) (.int .i64 l.length)
    exact rdo_end (m:=W.heap.size) (HREF.out.made2 HRR.out (G':={more G with w:=d}) hK (HGA.out.far (p:=⟨W.heap.size,1,none⟩) (λe=>ng8 e.symm) _) rfl hb9 (HMP.out.far (p:=⟨W.heap.size,1,none⟩) (λe=>by have e9:bb=W.heap.size:=e;have h9:=HMP.out;have h8:=HB8.out;rw [e9] at h9;obtain ⟨D,⟨es,ck,hh,_⟩,_⟩:=h9;rw [show wo.heap[W.heap.size]?=_ from h8] at hh;cases hh) _)) HRR.out HM.out (HO.out.own9 hK HA.out.ref.inR) ⟨0,l.length,[],l⟩ oN (own_lower (own_same HOW.out (λy e=>bS _ _ _ _ (show y≠W.heap.size by have:=(HOW.out.lt y e).1;omega))) (Nat.le_succ _)) _ _ _ _
noncomputable def r46C:Code:=((Tryz.f10.body.bind (regionOf 46)).getD .skip)
noncomputable def r46Ops:Array Oper:=match r46C with
 | .region _ ops _=>ops
 |_=>#[]
theorem r46C_is:r46C=.region 46 r46Ops true:=by kernel_rfl
theorem r46Ops_size:r46Ops.size=10:=by kernel_rfl
def r46Slot (k:Nat):Option Nat:=([some 215,some 216,some 217,some 218,some 219,some 220,some 221,some 222,some 223,none]:List (Option Nat)).getD k none
def r46Val (g p3 p4 b:Nat) (next fall wide high:Int) (L:List M.Box) (bx:M.Box) (ids:List Int) (sv:Value) (ac kind id n mask:Int) (row:M.Row) (gg:(Value×(Option Addr×Nat))) (k9:Nat):Value:=([.pointer (some ⟨g,0,none⟩),.pointer (some ⟨g,0,none⟩),.pointer (some ⟨g,0,none⟩),.agg #[.map (some b),.int .i64 next,.int .i64 fall,.int .i64 wide,.int .i64 high],gg.1,.pointer (some ⟨p3,12,none⟩),.agg #[.int .i64 bx.id,.int .i64 bx.x1,.int .i64 bx.y1,.int .i64 bx.x2,.int .i64 bx.y2],.slice gg.2.1 ids.length gg.2.2,.agg #[.int .i64 0,.int .i64 0,.slice gg.2.1 ids.length gg.2.2,.slice none 0 0],undef]:List Value).getD k9 undef
def r46Needs (k:Nat):List Nat:=([[],[0],[1],[2],[3],[],[5],[4,6],[7],[8]]:List (List Nat)).getD k []
def r46Mem (g p3 p4 b:Nat) (next fall wide high:Int) (L:List M.Box) (bx:M.Box) (ids:List Int) (sv:Value) (ac kind id n mask:Int) (row:M.Row) (W0:World) (gg:(Value×(Option Addr×Nat))) (ll:Array Bool) (W:World):Prop:=∃U,Below W0.heap.size W0 U/\(ll.getD 4 false=true->U.ownsRow W0.heap.size 40 5 gg.1 L.length (L.flatMap boxL))/\(ll.getD 7 false=true->U.ownsRow W0.heap.size 3 1 (.slice gg.2.1 ids.length gg.2.2) ids.length (ids.map (Value.int .i64)))/\W=(if ll.getD 9 false=true then ((((U.setCell ⟨p4,0,none⟩ (.int .i64 0)).setCell ⟨p4,1,none⟩ (.int .i64 0)).setCell ⟨p4,2,none⟩ (.slice gg.2.1 ids.length gg.2.2)).setCell ⟨p4,3,none⟩ (.slice none 0 0)) else U)
noncomputable def r46K (g p3 p4 b:Nat) (next fall wide high:Int) (L:List M.Box) (bx:M.Box) (ids:List Int) (sv:Value) (ac kind id n mask:Int) (row:M.Row) (a0:Act) (W0:World):DG ((Value×(Option Addr×Nat))):={P:=Tryz.prog,ops:=r46Ops,a0:=a0,n:=10,slot:=r46Slot,val:=r46Val g p3 p4 b next fall wide high L bx ids sv ac kind id n mask row,needs:=r46Needs,mem:=r46Mem g p3 p4 b next fall wide high L bx ids sv ac kind id n mask row W0}
section
variable {g p3 p4 b:Nat} {next fall wide high:Int} {L:List M.Box} {bx:M.Box} {ids:List Int} {sv:Value} {ac kind id n mask:Int} {row:M.Row}
variable {a0 fr:Act} {W0 W:World} {Q:Exit->Act->World->Prop} {gg:(Value×(Option Addr×Nat))} {ll:Array Bool} {k:Nat}
structure r46Ok (g p3 p4 b:Nat) (next fall wide high:Int) (L:List M.Box) (bx:M.Box) (ids:List Int) (sv:Value) (ac kind id n mask:Int) (row:M.Row) (a0:Act) (W0:World):Prop where
 h0:a0.eval (.tmp 0)=.pointer (some ⟨g,0,none⟩)
 h3:a0.eval (.tmp 3)=.pointer (some ⟨p3,0,none⟩)
 h4:a0.eval (.tmp 4)=.pointer (some ⟨p4,0,none⟩)
 bg:Blk W0 g 58 #[.map (some b),.int .i64 next,.int .i64 fall,.int .i64 wide,.int .i64 high,sv,.int .i64 ac]
 ba:Blk W0 p3 42 (actC ⟨kind,id,n,mask,row,bx⟩)
 by_:Blk W0 p4 35 #[.int .i64 0,.int .i64 0,.slice none 0 0,.slice none 0 0]
 bf:∀W,Below W0.heap.size W0 W->Calls Tryz.prog 31 #[.agg #[.map (some b),.int .i64 next,.int .i64 fall,.int .i64 wide,.int .i64 high]] W λe W'=>∃v,e=.returned v/\W'.ownsRow W0.heap.size 40 5 v L.length (L.flatMap boxL)/\Below W.heap.size W W'
 lk:∀W v,W.ownsRow W0.heap.size 40 5 v L.length (L.flatMap boxL)->Calls Tryz.prog 30 #[v,.agg #[.int .i64 bx.id,.int .i64 bx.x1,.int .i64 bx.y1,.int .i64 bx.x2,.int .i64 bx.y2]] W λe W'=>∃v',e=.returned v'/\W'.ownsRow W.heap.size 3 1 v' ids.length (ids.map (Value.int .i64))/\Below W.heap.size W W'
theorem r46_v (F:(r46K g p3 p4 b next fall wide high L bx ids sv ac kind id n mask row a0 W0).Facts k gg ll fr W) (j s:Nat) (h1:j∈r46Needs k) (h2:r46Slot j=some s):fr.eval (.tmp s)=r46Val g p3 p4 b next fall wide high L bx ids sv ac kind id n mask row gg j:=F.vals j s h1 h2
theorem r46_o (F:(r46K g p3 p4 b next fall wide high L bx ids sv ac kind id n mask row a0 W0).Facts k gg ll fr W) (s:Nat) {v:Value} (h2:a0.eval (.tmp s)=v) (h1:∀k,k<10->r46Slot k≠some s):fr.eval (.tmp s)=v:=(F.other s h1).trans h2
theorem r46_z (F:(r46K g p3 p4 b next fall wide high L bx ids sv ac kind id n mask row a0 W0).Facts k gg ll fr W):ll.size=10:=F.size
theorem r46_keep (F:(r46K g p3 p4 b next fall wide high L bx ids sv ac kind id n mask row a0 W0).Facts k gg ll fr W) (n4:k≠4) (n7:k≠7) (n9:k≠9):r46Mem g p3 p4 b next fall wide high L bx ids sv ac kind id n mask row W0 gg (ll.setIfInBounds k true) W:=by
 have h9:r46Mem g p3 p4 b next fall wide high L bx ids sv ac kind id n mask row W0 gg ll W:=F.mem
 unfold r46Mem at h9⊢
 rw [DG.set_ne n4,DG.set_ne n7,DG.set_ne n9]
 exact h9
theorem r46_x {p:Prop} (h:p:=by show Oper.wp Tryz.prog oo fr W K Q;unfold Oper.wp;(try simp only [r46K,r46Val,DG.gz,DG.gs] at e);simp only [execOp,hop,e,mA,mC,mN];go_simp;exact hK gg _ (λ_ _ _ _=>rfl) (r46_keep F dC dC dC)):p:=h
theorem r46_ok (ok:r46Ok g p3 p4 b next fall wide high L bx ids sv ac kind id n mask row a0 W0) (hz:a0.tmps.size=406):(r46K g p3 p4 b next fall wide high L bx ids sv ac kind id n mask row a0 W0).Ok Q:=by
 refine DG.ok_of r46Ops_size kR kR (by rfl) hz (by rfl) ?_
 ·intro k hk
  rcases (show k=0\/k=1\/k=2\/k=3\/k=4\/k=5\/k=6\/k=7\/k=8\/k=9 from by have k9:k<10:=hk;omega) with rfl|rfl|rfl|rfl|rfl|rfl|rfl|rfl|rfl|rfl
  ·exact .ofo 0 ok.h0 (x:=(.move (.tmp 0),some 215)) (H:=λgg ll fr W F oo hop hd K hK e=>r46_x)
  ·exact .of1 0 215 (x:=(.nilCheck (.tmp 215),some 216)) (H:=λgg ll fr W F oo hop hd K hK e=>r46_x)
  ·exact .of1 1 216 (x:=(.fieldAddr 58 (.tmp 216) 0,some 217)) (H:=λgg ll fr W F oo hop hd K hK e=>r46_x)
  ·refine .of1 2 217 (x:=(.load 46 (.tmp 217),some 218)) (H:=λgg ll fr W F oo hop hd K hK e=>?_)
   have l9:ll.getD 9 false=false:=(F.up (show 8∈r46Needs 9 from by decide) (F.up (show 7∈r46Needs 8 from by decide) (F.up (show 4∈r46Needs 7 from by decide) (F.before (show 3∈r46Needs 4 from by decide)))))
   obtain ⟨U,hbel,h4,h7,hW⟩:=F.mem
   rw [if_neg (by rw [l9];simp)] at hW
   subst hW
   have hp:=ok.bg.below hbel ok.bg.lt
   have u0:=hp.cell 0
   have u1:=hp.cell 1
   have u2:=hp.cell 2
   have u3:=hp.cell 3
   have u4:=hp.cell 4
   simp at u0 u1 u2 u3 u4
   exact r46_x
  ·refine .of (x:=(.call {callee:=.value (.func 31),args:=#[.tmp 218],argTypes:=#[46]},some 219)) kR λgg ll fr W F oo hop hd K hK=>?_
   have e3:=r46_v F 3 218 dC rfl
   simp only [r46Val,DG.gz,DG.gs] at e3
   have l9:ll.getD 9 false=false:=(F.up (show 8∈r46Needs 9 from by decide) (F.up (show 7∈r46Needs 8 from by decide) (F.before (show 4∈r46Needs 7 from by decide))))
   obtain ⟨U,hbel,h4,h7,hW⟩:=F.mem
   rw [if_neg (by rw [l9];simp)] at hW
   subst hW
   show oo.wp Tryz.prog fr W K Q
   unfold Oper.wp
   simp only [execOp,hop,e3,mA,mC,mN]
   go_simp
   try simp only [DG.tmps_eval,e3]
   refine (ok.bf W hbel).mono ?_
   rintro e W2 ⟨v9,rfl,ho9,hb9⟩
   refine hK (v9,gg.2) W2 (λj hj hne hl=>?_) (show r46Mem g p3 p4 b next fall wide high L bx ids sv ac kind id n mask row W0 (v9,gg.2) (ll.setIfInBounds 4 true) W2 from ?_)
   ·have hj':j<10:=hj
    rcases (by omega:j=0\/j=1\/j=2\/j=3\/j=4\/j=5\/j=6\/j=7\/j=8\/j=9) with rfl|rfl|rfl|rfl|rfl|rfl|rfl|rfl|rfl|rfl<;>first|rfl|exact absurd rfl hne
   ·unfold r46Mem
    rw [DG.set_ne (i:=4) (k:=7) dC,DG.set_ne (i:=4) (k:=9) dC,l9]
    exact ⟨W2,hbel.trans (hb9.mono hbel.size),λ_=>ho9,λe=>own_below (h7 e) hb9,(if_neg sS).symm⟩
  ·exact .ofo 3 ok.h3 (x:=(.fieldAddr 42 (.tmp 3) 5,some 220)) (H:=λgg ll fr W F oo hop hd K hK e=>r46_x)
  ·refine .of1 5 220 (x:=(.load 40 (.tmp 220),some 221)) (H:=λgg ll fr W F oo hop hd K hK e=>?_)
   have l9:ll.getD 9 false=false:=(F.up (show 8∈r46Needs 9 from by decide) (F.up (show 7∈r46Needs 8 from by decide) (F.before (show 6∈r46Needs 7 from by decide))))
   obtain ⟨U,hbel,h4,h7,hW⟩:=F.mem
   rw [if_neg (by rw [l9];simp)] at hW
   subst hW
   have hp:=ok.ba.below hbel ok.ba.lt
   have u12:=hp.cell 12
   have u13:=hp.cell 13
   have u14:=hp.cell 14
   have u15:=hp.cell 15
   have u16:=hp.cell 16
   simp at u12 u13 u14 u15 u16
   exact r46_x
  ·refine .of (x:=(.call {callee:=.value (.func 30),args:=#[.tmp 219,.tmp 221],argTypes:=#[80,40]},some 222)) kR λgg ll fr W F oo hop hd K hK=>?_
   have e4:=r46_v F 4 219 dC rfl
   have e6:=r46_v F 6 221 dC rfl
   simp only [r46Val,DG.gz,DG.gs] at e4 e6
   have l9:ll.getD 9 false=false:=(F.up (show 8∈r46Needs 9 from by decide) (F.before (show 7∈r46Needs 8 from by decide)))
   obtain ⟨U,hbel,h4,h7,hW⟩:=F.mem
   rw [if_neg (by rw [l9];simp)] at hW
   subst hW
   have ho:=h4 (F.listed 4 (show 4∈r46Needs 7 from by decide))
   show oo.wp Tryz.prog fr W K Q
   unfold Oper.wp
   simp only [execOp,hop,e4,e6,mA,mC,mN]
   go_simp
   try simp only [DG.tmps_eval,e4,e6]
   refine (ok.lk W gg.1 ho).mono ?_
   rintro e W2 ⟨v9,rfl,ho9,hb9⟩
   obtain ⟨va,vc,rfl⟩:=own_form ho9
   refine hK (gg.1,(va,vc)) W2 (λj hj hne hl=>?_) (show r46Mem g p3 p4 b next fall wide high L bx ids sv ac kind id n mask row W0 (gg.1,(va,vc)) (ll.setIfInBounds 7 true) W2 from ?_)
   ·have hj':j<10:=hj
    rcases (by omega:j=0\/j=1\/j=2\/j=3\/j=4\/j=5\/j=6\/j=7\/j=8\/j=9) with rfl|rfl|rfl|rfl|rfl|rfl|rfl|rfl|rfl|rfl<;>first|rfl|exact absurd rfl hne|(exfalso;have q:=F.closed 8 7 (show 7∈r46Needs 8 from by decide) hl;rw [F.not] at q;cases q)
   ·unfold r46Mem
    rw [DG.set_ne (i:=7) (k:=4) dC,DG.set_ne (i:=7) (k:=9) dC,l9]
    exact ⟨W2,hbel.trans (hb9.mono hbel.size),λe=>own_below (h4 e) hb9,λ_=>own_lower ho9 hbel.size,(if_neg sS).symm⟩
  ·exact .of1 7 222 (x:=(.build 35 #[(2,.tmp 222)],some 223)) (H:=λgg ll fr W F oo hop hd K hK e=>r46_x)
  ·refine .of (x:=(.store 35 (.tmp 4) (.tmp 223),none)) kR λgg ll fr W F oo hop hd K hK=>?_
   have e8:=r46_v F 8 223 dC rfl
   simp only [r46Val,DG.gz,DG.gs] at e8
   have s4:=r46_o F 4 ok.h4 dC
   have hz:9<ll.size:=by rw [r46_z F];decide
   have l9:ll.getD 9 false=false:=F.not
   obtain ⟨U,hbel,h4,h7,hW⟩:=F.mem
   rw [if_neg (by rw [l9];simp)] at hW
   subst hW
   have hp:=ok.by_.below hbel ok.by_.lt
   have u0:=hp.cell 0
   have u1:=hp.cell 1
   have u2:=hp.cell 2
   have u3:=hp.cell 3
   have fz:=λi=>hp.free i
   simp at u0 u1 u2 u3
   show oo.wp Tryz.prog fr W K Q
   unfold Oper.wp
   simp only [execOp,hop,e8,s4,mA,mC,mN]
   go_simp
   exact hK gg _ (λ_ _ _ _=>rfl) (show r46Mem g p3 p4 b next fall wide high L bx ids sv ac kind id n mask row W0 gg (ll.setIfInBounds 9 true) _ from by unfold r46Mem;rw [DG.set_eq hz,DG.set_ne (i:=9) (k:=4) dC,DG.set_ne (i:=9) (k:=7) dC];exact ⟨W,hbel,h4,h7,(if_pos rfl).symm⟩)
abbrev r46L (g p3 p4 b:Nat) (next fall wide high:Int) (L:List M.Box) (bx:M.Box) (ids:List Int) (sv:Value) (ac kind id n mask:Int) (row:M.Row) (gg:(Value×(Option Addr×Nat))):List (Nat×Value):=[(215,r46Val g p3 p4 b next fall wide high L bx ids sv ac kind id n mask row gg 0),(216,r46Val g p3 p4 b next fall wide high L bx ids sv ac kind id n mask row gg 1),(217,r46Val g p3 p4 b next fall wide high L bx ids sv ac kind id n mask row gg 2),(218,r46Val g p3 p4 b next fall wide high L bx ids sv ac kind id n mask row gg 3),(219,r46Val g p3 p4 b next fall wide high L bx ids sv ac kind id n mask row gg 4),(220,r46Val g p3 p4 b next fall wide high L bx ids sv ac kind id n mask row gg 5),(221,r46Val g p3 p4 b next fall wide high L bx ids sv ac kind id n mask row gg 6),(222,r46Val g p3 p4 b next fall wide high L bx ids sv ac kind id n mask row gg 7),(223,r46Val g p3 p4 b next fall wide high L bx ids sv ac kind id n mask row gg 8)]
theorem r46_region (ok:r46Ok g p3 p4 b next fall wide high L bx ids sv ac kind id n mask row a0 W0) (hz:a0.tmps.size=406) (hd:a0.defers=[]) (g0:(Value×(Option Addr×Nat))) (hm:r46Mem g p3 p4 b next fall wide high L bx ids sv ac kind id n mask row W0 g0 (Array.replicate 10 false) W)
  (hQ:∀(gg:(Value×(Option Addr×Nat))) (ll:Array Bool) (W':World),(∀k,k<10->ll.getD k false=true)->r46Mem g p3 p4 b next fall wide high L bx ids sv ac kind id n mask row W0 gg ll W'->Q .normal ⟨DG.setQ a0.tmps (r46L g p3 p4 b next fall wide high L bx ids sv ac kind id n mask row gg),[]⟩ W'):
  wpAny Tryz.prog .any r46Ops Q 10 (Array.replicate 10 false) a0 W:=
 DG.region2 (c:=r46K g p3 p4 b next fall wide high L bx ids sv ac kind id n mask row a0 W0) (r46_ok ok hz) kR hd g0 hm (r46L g p3 p4 b next fall wide high L bx ids sv ac kind id n mask row) (λ_=>rfl) hQ
end
theorem rdo_look {w:World} {R:Nat->Prop} {g:Nat} {G:M.Game} {b:Nat} {sv:Value} {hs:List Nat} (h:RefAt w R g G b sv hs) (hR:∀y,R y->y<w.heap.size) (hG:M.GoodG G) (kind id n mask:Int) (row:M.Row) (box:M.Box) (hk:kind=9) (h0:0<=G.acts) (hlt:G.acts<150) (hx:ActIn ⟨kind,id,n,mask,row,box⟩):
  Calls Tryz.prog 10 #[.pointer (some ⟨g,0,none⟩),actV ⟨kind,id,n,mask,row,box⟩] w (RefPost R w g (M.doAct G ⟨kind,id,n,mask,row,box⟩).1 (M.doAct G ⟨kind,id,n,mask,row,box⟩).2):=by
 subst hk
 have gs:=hG.w.things
 rw [show M.doAct G ⟨9,id,n,mask,row,box⟩=(more G,⟨0,0,M.lookB (M.boxes G.w.things) box,[]⟩) by unfold M.doAct;rw [if_neg bO];simp only;rw [if_neg bO,if_neg bO,if_neg bO,if_neg bO,if_neg bO,if_neg bO,if_neg bO,if_pos trivial]]
 show Calls _ _ _ _ (RefPost R w g (more G) ⟨0,0,M.lookB (M.boxes G.w.things) box,[]⟩)
 obtain ⟨is,his⟩:∃t,(M.at_ G.w.things id).isSome=t:=⟨_,rfl⟩
 refine rdo_begin h _ hx.1.2.1 h0 hlt (λf gt W F A=>?_)
 obtain ⟨f0,f3,f4,f5,f6,f7⟩:=F
 simp only [his] at f7
 obtain ⟨x0,x1,x2,x3,x4,x5,x6,x7,x8,x9,x10,x11,x12,x13,x14,x15,x16⟩:=act_cells A.act
 obtain ⟨y0,y1,y2,y3⟩:=four_cells A.rep
 obtain ⟨g0,g1,g2,g3,g4,g5,g6⟩:=game_cells A.ref.blk
 obtain ⟨yf,gf,lx,ly,lg,gp,HREF,HO,HY,HBG,HM,ng1,ng2,ng3,ng4⟩:=rdo_facts A hR
 have HA:=hI A
 have HRR:=hI hR
 simp only [fr406,f0,f3,f4,f5,f6,f7]
 clear A
 conv=>arg 2;whnf
 clear f0 f3 f4 f5 f6 f7 h
 clear his
 clear hR hx
 obtain ⟨L,hL⟩:∃L,L=M.boxes G.w.things:=⟨_,rfl⟩
 have hl:=M.boxes_few gs
 rw [←hL] at hl⊢
 have HBF:=hI (λU (hb:Below W.drew.heap.size W.drew U)=>show Calls Tryz.prog 31 #[rwV b G.w.things.next G.w.fall G.w.wide G.w.high] U (λe W'=>∃v,e=.returned v/\W'.ownsRow W.drew.heap.size 40 5 v L.length (L.flatMap boxL)/\Below U.heap.size U W') from (boxesOf_calls (HREF.out.map.2.below (show Below W.heap.size W U from ((Below.refl _ W).drew).trans hb) HREF.out.map.2.lt) (Nat.le_trans gs.2.2.2.1 dC) (λid t e=>M.at_fits gs e) G.w.things.next G.w.fall G.w.wide G.w.high).mono (by rintro e W' ⟨v,zs,h1,h2,h4,h5,h6,_,h3⟩;rw [M.boxesF_boxes gs h4 h5 h6,←hL] at h2;exact ⟨v,h1,own_lower h2 hb.size,h3⟩))
 have HLK:=hI (λ(U:World) (v:Value) (ho:U.ownsRow W.drew.heap.size 40 5 v L.length (L.flatMap boxL))=>lookOf_calls (Lies.mono (Lies.of_owns ho) (Nat.zero_le _)) (own_cap ho) bO box)
 clear hL
 go_upto_region 46 with fail
 refine DG.wp_named (λA hA=>?_)
 show Code.wp Tryz.prog r46C _ _ _
 rw [r46C_is]
 refine wp_region_any kR ?_
 rw [r46Ops_size]
 show wpAny _ _ _ _ _ _ _ W.drew
 refine r46_region (g:=g) (p3:=w.heap.size) (p4:=w.heap.size+1) (b:=b) (next:=G.w.things.next) (fall:=G.w.fall) (wide:=G.w.wide) (high:=G.w.high) (L:=L) (bx:=box) (ids:=M.lookB L box) (sv:=sv) (ac:=G.acts+1) (kind:=9) (id:=id) (n:=n) (mask:=mask) (row:=row) (W0:=W.drew) ⟨by rw [hA];rfl,by rw [hA];rfl,by rw [hA];rfl,HBG.out.drew,HA.out.act.drew,HY.out.drew,HBF.out,HLK.out⟩ rA (by rw [hA]) (undef,(none,0)) (by unfold r46Mem;exact ⟨_,Below.refl _ _,(λe=>by cases e),(λe=>by cases e),by rw [if_neg sS]⟩) ?_
 intro gg ll W4 hll hmm
 unfold r46Mem at hmm
 obtain ⟨U,hbel,h4,h7,hW⟩:=hmm
 have ho7:=h7 (hll 7 dC)
 rw [if_pos (hll 9 dC)] at hW
 subst hW
 have K4:Below W.heap.size W U:=((Below.refl _ W).drew).trans hbel
 refine next_frame rA [0,3,4,5] (by rfl) (λf9 k9=>?_)
 have e0:f9 0=.pointer (some ⟨g,0,none⟩):=(k9 0 dC).trans rA
 have e3:f9 3=.pointer (some ⟨w.heap.size,0,none⟩):=(k9 3 dC).trans rA
 have e4:f9 4=.pointer (some ⟨w.heap.size+1,0,none⟩):=(k9 4 dC).trans rA
 have e5:f9 5=.func (.func 26) #[] #[]:=(k9 5 dC).trans rA
 clear k9 hA A
 simp only [fr406,e0,e3,e4,e5]
 clear e0 e3 e4 e5
 go_wp2_with fail
 refine bodyPost_ret (results_cell_row rfl _ _ _ _ _ _ _ rfl (reply_blk (HY.out.below K4 ly) _ _ _ _) Tryz.underlying35 rfl kR) rfl ?_
 exact rdo_end (m:=W.heap.size) (HREF.out.below K4) HRR.out HM.out (HO.out.more K4) ⟨0,0,M.lookB L box,[]⟩ ho7 oN _ _ _ _
theorem rsave_cells {w:World} {R:Nat->Prop} {g:Nat} {G:M.Game} {b sb sc:Nat} {hs:List Nat} (h:RefAt w R g G b (.slice (some ⟨sb,0,none⟩) G.saves.length sc) hs) {i:Nat} {d:M.Wd} (hi:G.saves[i]?=some d):
  ∃x,MapA w x (M.at_ d.things) (M.size d.things)/\w.cell? ⟨sb,i*5,none⟩=some (.map (some x))/\w.cell? ⟨sb,i*5+1,none⟩=some (.int .i64 d.things.next)/\w.cell? ⟨sb,i*5+2,none⟩=some (.int .i64 d.fall)/\w.cell? ⟨sb,i*5+3,none⟩=some (.int .i64 d.wide)/\w.cell? ⟨sb,i*5+4,none⟩=some (.int .i64 d.high):=by
 have hlt:=(List.getElem?_eq_some_iff.1 hi).1
 obtain ⟨x,hv⟩:∃v,hs[i]?=some v:=⟨_,List.getElem?_eq_getElem (by rw [h.len];exact hlt)⟩
 obtain ⟨_,hm⟩:=h.each i d x hi hv
 have hz:(G.saves.zip hs)[i]?=some (d,x):=(List.getElem?_zip_eq_some (z:=(d,x))).2 ⟨hi,hv⟩
 have k:∀j u,([Value.map (some x),.int .i64 d.things.next,.int .i64 d.fall,.int .i64 d.wide,.int .i64 d.high])[j]?=some u->j<5->w.cell? ⟨sb,i*5+j,none⟩=some u:=λj u hj h5=>
  (h.own.cellAt (i*5+j) bO).trans ((flat_at (λp:M.Wd×Nat=>[Value.map (some p.2),.int .i64 p.1.things.next,.int .i64 p.1.fall,.int .i64 p.1.wide,.int .i64 p.1.high]) 5 (λ_=>rfl) (G.saves.zip hs) i j hz h5).trans hj)
 exact ⟨x,hm,k 0 _ rfl bO,k 1 _ rfl bO,k 2 _ rfl bO,k 3 _ rfl bO,k 4 _ rfl bO⟩
noncomputable def r43C:Code:=((Tryz.f10.body.bind (regionOf 43)).getD .skip)
noncomputable def r43Ops:Array Oper:=match r43C with
 | .region _ ops _=>ops
 |_=>#[]
theorem r43C_is:r43C=.region 43 r43Ops true:=by kernel_rfl
theorem r43Ops_size:r43Ops.size=13:=by kernel_rfl
def r43Slot (k:Nat):Option Nat:=([some 199,some 200,some 201,some 202,some 203,some 204,some 205,some 206,some 207,some 208,some 209,some 210,none]:List (Option Nat)).getD k none
def r43Val (g p3 sb i N sc x:Nat) (next fall wide high:Int) (f:Int->Option M.Th) (c:Nat) (gg:Nat) (k9:Nat):Value:=([.pointer (some ⟨g,0,none⟩),.pointer (some ⟨g,0,none⟩),.pointer (some ⟨g,0,none⟩),.pointer (some ⟨g,5,none⟩),.slice (some ⟨sb,0,none⟩) N sc,.pointer (some ⟨p3,2,none⟩),.int .i64 (i:Int),.pointer (some ⟨sb,i*5,none⟩),.agg #[.map (some x),.int .i64 next,.int .i64 fall,.int .i64 wide,.int .i64 high],.agg #[.map (some gg),.int .i64 next,.int .i64 fall,.int .i64 wide,.int .i64 high],.pointer (some ⟨g,0,none⟩),.pointer (some ⟨g,0,none⟩),undef]:List Value).getD k9 undef
def r43Needs (k:Nat):List Nat:=([[],[],[1],[2],[3],[],[5],[4,6],[7],[8],[0],[10],[9,11]]:List (List Nat)).getD k []
def r43Mem (g p3 sb i N sc x:Nat) (next fall wide high:Int) (f:Int->Option M.Th) (c:Nat) (W0:World) (gg:Nat) (ll:Array Bool) (W:World):Prop:=∃U,Below W0.heap.size W0 U/\(ll.getD 9 false=true->MapA U gg f c/\W0.heap.size<=gg)/\W=(if ll.getD 12 false=true then (((((U.setCell ⟨g,0,none⟩ (.map (some gg))).setCell ⟨g,1,none⟩ (.int .i64 next)).setCell ⟨g,2,none⟩ (.int .i64 fall)).setCell ⟨g,3,none⟩ (.int .i64 wide)).setCell ⟨g,4,none⟩ (.int .i64 high)) else U)
noncomputable def r43K (g p3 sb i N sc x:Nat) (next fall wide high:Int) (f:Int->Option M.Th) (c:Nat) (a0:Act) (W0:World):DG (Nat):={P:=Tryz.prog,ops:=r43Ops,a0:=a0,n:=13,slot:=r43Slot,val:=r43Val g p3 sb i N sc x next fall wide high f c,needs:=r43Needs,mem:=r43Mem g p3 sb i N sc x next fall wide high f c W0}
section
variable {g p3 sb i N sc x:Nat} {next fall wide high:Int} {f:Int->Option M.Th} {c:Nat}
variable {a0 fr:Act} {W0 W:World} {Q:Exit->Act->World->Prop} {gg:Nat} {ll:Array Bool} {k:Nat}
structure r43Ok (g p3 sb i N sc x:Nat) (next fall wide high:Int) (f:Int->Option M.Th) (c:Nat) (a0:Act) (W0:World):Prop where
 h0:a0.eval (.tmp 0)=.pointer (some ⟨g,0,none⟩)
 h3:a0.eval (.tmp 3)=.pointer (some ⟨p3,0,none⟩)
 lt:i<N
 hN:N<=9223372036854775807
 cg:∀W,Below W0.heap.size W0 W->W.cell? ⟨g,5,none⟩=some (.slice (some ⟨sb,0,none⟩) N sc)
 cp:∀W,Below W0.heap.size W0 W->W.cell? ⟨p3,2,none⟩=some (.int .i64 (i:Int))
 cs:∀W,Below W0.heap.size W0 W->W.cell? ⟨sb,i*5,none⟩=some (.map (some x))/\W.cell? ⟨sb,i*5+1,none⟩=some (.int .i64 next)/\W.cell? ⟨sb,i*5+2,none⟩=some (.int .i64 fall)/\W.cell? ⟨sb,i*5+3,none⟩=some (.int .i64 wide)/\W.cell? ⟨sb,i*5+4,none⟩=some (.int .i64 high)
 cw:∀W,Below W0.heap.size W0 W->∃z0 z1 z2 z3 z4,W.cell? ⟨g,0,none⟩=some (z0)/\W.cell? ⟨g,1,none⟩=some (z1)/\W.cell? ⟨g,2,none⟩=some (z2)/\W.cell? ⟨g,3,none⟩=some (z3)/\W.cell? ⟨g,4,none⟩=some (z4)
 fz:∀W,Below W0.heap.size W0 W->∀q,W.frozen? ⟨g,q,none⟩=false
 cc:∀W,Below W0.heap.size W0 W->Calls Tryz.prog 28 #[.agg #[.map (some x),.int .i64 next,.int .i64 fall,.int .i64 wide,.int .i64 high]] W λe W'=>∃b',e=.returned (.agg #[.map (some b'),.int .i64 next,.int .i64 fall,.int .i64 wide,.int .i64 high])/\MapA W' b' f c/\W.heap.size<=b'/\Below W.heap.size W W'
theorem r43_v (F:(r43K g p3 sb i N sc x next fall wide high f c a0 W0).Facts k gg ll fr W) (j s:Nat) (h1:j∈r43Needs k) (h2:r43Slot j=some s):fr.eval (.tmp s)=r43Val g p3 sb i N sc x next fall wide high f c gg j:=F.vals j s h1 h2
theorem r43_z (F:(r43K g p3 sb i N sc x next fall wide high f c a0 W0).Facts k gg ll fr W):ll.size=13:=F.size
theorem r43_keep (F:(r43K g p3 sb i N sc x next fall wide high f c a0 W0).Facts k gg ll fr W) (n9:k≠9) (n12:k≠12):r43Mem g p3 sb i N sc x next fall wide high f c W0 gg (ll.setIfInBounds k true) W:=by
 have h9:r43Mem g p3 sb i N sc x next fall wide high f c W0 gg ll W:=F.mem
 unfold r43Mem at h9⊢
 rw [DG.set_ne n9,DG.set_ne n12]
 exact h9
theorem r43_x {p:Prop} (h:p:=by show Oper.wp Tryz.prog oo fr W K Q;unfold Oper.wp;(try simp only [r43K,r43Val,DG.gz,DG.gs] at e);simp only [execOp,hop,e,mA,mC,mN];go_simp;exact hK gg _ (λ_ _ _ _=>rfl) (r43_keep F dC dC)):p:=h
theorem r43_ok (ok:r43Ok g p3 sb i N sc x next fall wide high f c a0 W0) (hz:a0.tmps.size=406):(r43K g p3 sb i N sc x next fall wide high f c a0 W0).Ok Q:=by
 refine DG.ok_of r43Ops_size kR kR (by rfl) hz (by rfl) ?_
 ·intro k hk
  rcases (show k=0\/k=1\/k=2\/k=3\/k=4\/k=5\/k=6\/k=7\/k=8\/k=9\/k=10\/k=11\/k=12 from by have k9:k<13:=hk;omega) with rfl|rfl|rfl|rfl|rfl|rfl|rfl|rfl|rfl|rfl|rfl|rfl|rfl
  ·exact .ofo 0 ok.h0 (x:=(.move (.tmp 0),some 199)) (H:=λgg ll fr W F oo hop hd K hK e=>r43_x)
  ·exact .ofo 0 ok.h0 (x:=(.move (.tmp 0),some 200)) (H:=λgg ll fr W F oo hop hd K hK e=>r43_x)
  ·exact .of1 1 200 (x:=(.nilCheck (.tmp 200),some 201)) (H:=λgg ll fr W F oo hop hd K hK e=>r43_x)
  ·exact .of1 2 201 (x:=(.fieldAddr 58 (.tmp 201) 1,some 202)) (H:=λgg ll fr W F oo hop hd K hK e=>r43_x)
  ·refine .of1 3 202 (x:=(.load 56 (.tmp 202),some 203)) (H:=λgg ll fr W F oo hop hd K hK e=>?_)
   have l12:ll.getD 12 false=false:=(F.up (show 9∈r43Needs 12 from by decide) (F.up (show 8∈r43Needs 9 from by decide) (F.up (show 7∈r43Needs 8 from by decide) (F.before (show 4∈r43Needs 7 from by decide)))))
   obtain ⟨U,hbel,h9,hW⟩:=F.mem
   rw [if_neg (by rw [l12];simp)] at hW
   subst hW
   have u0:=ok.cg W hbel
   exact r43_x
  ·exact .ofo 3 ok.h3 (x:=(.fieldAddr 42 (.tmp 3) 2,some 204)) (H:=λgg ll fr W F oo hop hd K hK e=>r43_x)
  ·refine .of1 5 204 (x:=(.load 3 (.tmp 204),some 205)) (H:=λgg ll fr W F oo hop hd K hK e=>?_)
   have l12:ll.getD 12 false=false:=(F.up (show 9∈r43Needs 12 from by decide) (F.up (show 8∈r43Needs 9 from by decide) (F.up (show 7∈r43Needs 8 from by decide) (F.before (show 6∈r43Needs 7 from by decide)))))
   obtain ⟨U,hbel,h9,hW⟩:=F.mem
   rw [if_neg (by rw [l12];simp)] at hW
   subst hW
   have u0:=ok.cp W hbel
   exact r43_x
  ·refine .of2 4 203 6 205 (x:=(.indexAddr 56 (.tmp 203) (.tmp 205),some 206)) (H:=λgg ll fr W F oo hop hd K hK e=>?_)
   have hlt:=ok.lt
   have hN:=ok.hN
   exact r43_x
  ·refine .of1 7 206 (x:=(.load 46 (.tmp 206),some 207)) (H:=λgg ll fr W F oo hop hd K hK e=>?_)
   have l12:ll.getD 12 false=false:=(F.up (show 9∈r43Needs 12 from by decide) (F.before (show 8∈r43Needs 9 from by decide)))
   obtain ⟨U,hbel,h9,hW⟩:=F.mem
   rw [if_neg (by rw [l12];simp)] at hW
   subst hW
   obtain ⟨u0,u1,u2,u3,u4⟩:=ok.cs W hbel
   exact r43_x
  ·refine .of (x:=(.call {callee:=.value (.func 28),args:=#[.tmp 207],argTypes:=#[46]},some 208)) kR λgg ll fr W F oo hop hd K hK=>?_
   have e8:=r43_v F 8 207 dC rfl
   simp only [r43Val,DG.gz,DG.gs] at e8
   have l12:ll.getD 12 false=false:=(F.before (show 9∈r43Needs 12 from by decide))
   obtain ⟨U,hbel,h9,hW⟩:=F.mem
   rw [if_neg (by rw [l12];simp)] at hW
   subst hW
   show oo.wp Tryz.prog fr W K Q
   unfold Oper.wp
   simp only [execOp,hop,e8,mA,mC,mN]
   go_simp
   try simp only [DG.tmps_eval,e8]
   refine (ok.cc W hbel).mono ?_
   rintro e W2 ⟨b9,rfl,hm9,hs9,hb9⟩
   refine hK b9 W2 (λj hj hne hl=>?_) (show r43Mem g p3 sb i N sc x next fall wide high f c W0 b9 (ll.setIfInBounds 9 true) W2 from ?_)
   ·have hj':j<13:=hj
    rcases (by omega:j=0\/j=1\/j=2\/j=3\/j=4\/j=5\/j=6\/j=7\/j=8\/j=9\/j=10\/j=11\/j=12) with rfl|rfl|rfl|rfl|rfl|rfl|rfl|rfl|rfl|rfl|rfl|rfl|rfl<;>first|rfl|exact absurd rfl hne
   ·unfold r43Mem
    rw [DG.set_ne (i:=9) (k:=12) dC,l12]
    exact ⟨W2,hbel.trans (hb9.mono hbel.size),λ_=>⟨hm9,Nat.le_trans hbel.size hs9⟩,(if_neg sS).symm⟩
  ·exact .of1 0 199 (x:=(.nilCheck (.tmp 199),some 209)) (H:=λgg ll fr W F oo hop hd K hK e=>r43_x)
  ·exact .of1 10 209 (x:=(.fieldAddr 58 (.tmp 209) 0,some 210)) (H:=λgg ll fr W F oo hop hd K hK e=>r43_x)
  ·refine .of (x:=(.store 46 (.tmp 210) (.tmp 208),none)) kR λgg ll fr W F oo hop hd K hK=>?_
   have e9:=r43_v F 9 208 dC rfl
   have e11:=r43_v F 11 210 dC rfl
   simp only [r43Val,DG.gz,DG.gs] at e9 e11
   have hz:12<ll.size:=by rw [r43_z F];decide
   have l12:ll.getD 12 false=false:=F.not
   obtain ⟨U,hbel,h9,hW⟩:=F.mem
   rw [if_neg (by rw [l12];simp)] at hW
   subst hW
   obtain ⟨z0,z1,z2,z3,z4,v0,v1,v2,v3,v4⟩:=ok.cw W hbel
   have fz:=ok.fz W hbel
   show oo.wp Tryz.prog fr W K Q
   unfold Oper.wp
   simp only [execOp,hop,e9,e11,mA,mC,mN]
   go_simp
   exact hK gg _ (λ_ _ _ _=>rfl) (show r43Mem g p3 sb i N sc x next fall wide high f c W0 gg (ll.setIfInBounds 12 true) _ from by unfold r43Mem;rw [DG.set_eq hz,DG.set_ne (i:=12) (k:=9) dC];exact ⟨W,hbel,h9,(if_pos rfl).symm⟩)
abbrev r43L (g p3 sb i N sc x:Nat) (next fall wide high:Int) (f:Int->Option M.Th) (c:Nat) (gg:Nat):List (Nat×Value):=[(199,r43Val g p3 sb i N sc x next fall wide high f c gg 0),(200,r43Val g p3 sb i N sc x next fall wide high f c gg 1),(201,r43Val g p3 sb i N sc x next fall wide high f c gg 2),(202,r43Val g p3 sb i N sc x next fall wide high f c gg 3),(203,r43Val g p3 sb i N sc x next fall wide high f c gg 4),(204,r43Val g p3 sb i N sc x next fall wide high f c gg 5),(205,r43Val g p3 sb i N sc x next fall wide high f c gg 6),(206,r43Val g p3 sb i N sc x next fall wide high f c gg 7),(207,r43Val g p3 sb i N sc x next fall wide high f c gg 8),(208,r43Val g p3 sb i N sc x next fall wide high f c gg 9),(209,r43Val g p3 sb i N sc x next fall wide high f c gg 10),(210,r43Val g p3 sb i N sc x next fall wide high f c gg 11)]
theorem r43_region (ok:r43Ok g p3 sb i N sc x next fall wide high f c a0 W0) (hz:a0.tmps.size=406) (hd:a0.defers=[]) (g0:Nat) (hm:r43Mem g p3 sb i N sc x next fall wide high f c W0 g0 (Array.replicate 13 false) W)
  (hQ:∀(gg:Nat) (ll:Array Bool) (W':World),(∀k,k<13->ll.getD k false=true)->r43Mem g p3 sb i N sc x next fall wide high f c W0 gg ll W'->Q .normal ⟨DG.setQ a0.tmps (r43L g p3 sb i N sc x next fall wide high f c gg),[]⟩ W'):
  wpAny Tryz.prog .any r43Ops Q 13 (Array.replicate 13 false) a0 W:=
 DG.region2 (c:=r43K g p3 sb i N sc x next fall wide high f c a0 W0) (r43_ok ok hz) kR hd g0 hm (r43L g p3 sb i N sc x next fall wide high f c) (λ_=>rfl) hQ
end
theorem rdo_load {w:World} {R:Nat->Prop} {g:Nat} {G:M.Game} {b:Nat} {sv:Value} {hs:List Nat} (h:RefAt w R g G b sv hs) (hR:∀y,R y->y<w.heap.size) (hG:M.GoodG G) (kind id n mask:Int) (row:M.Row) (box:M.Box) (hk:kind=8) (h0:0<=G.acts) (hlt:G.acts<150) (hx:ActIn ⟨kind,id,n,mask,row,box⟩):
  Calls Tryz.prog 10 #[.pointer (some ⟨g,0,none⟩),actV ⟨kind,id,n,mask,row,box⟩] w (RefPost R w g (M.doAct G ⟨kind,id,n,mask,row,box⟩).1 (M.doAct G ⟨kind,id,n,mask,row,box⟩).2):=by
 subst hk
 have hb:M.inB n 0 ((G.saves.length:Int)-1)=decide (0<=n/\n<(G.saves.length:Int)):=by unfold M.inB;rw [Bool.eq_iff_iff];simp;omega
 by_cases hn:n<0\/(G.saves.length:Int)<=n
 ·rw [show M.doAct G ⟨8,id,n,mask,row,box⟩=(more G,M.no 3) by unfold M.doAct;rw [if_neg bO];simp only;rw [if_neg bO,if_neg bO,if_neg bO,if_neg bO,if_neg bO,if_neg bO,if_pos trivial,if_pos hn]]
  have hB:M.inB n 0 ((G.saves.length:Int)-1)=false:=by rw [hb];simp;omega
  clear hb
  obtain ⟨is,his⟩:∃t,(M.at_ G.w.things id).isSome=t:=⟨_,rfl⟩
  refine rdo_begin h _ hx.1.2.1 h0 hlt (λf gt W F A=>?_)
  obtain ⟨f0,f3,f4,f5,f6,f7⟩:=F
  simp only [his] at f7
  obtain ⟨x0,x1,x2,x3,x4,x5,x6,x7,x8,x9,x10,x11,x12,x13,x14,x15,x16⟩:=act_cells A.act
  obtain ⟨y0,y1,y2,y3⟩:=four_cells A.rep
  obtain ⟨g0,g1,g2,g3,g4,g5,g6⟩:=game_cells A.ref.blk
  obtain ⟨yf,gf,lx,ly,lg,gp,HREF,HO,HY,HBG,HM,ng1,ng2,ng3,ng4⟩:=rdo_facts A hR
  have HA:=hI A
  have HRR:=hI hR
  simp only [fr406,f0,f3,f4,f5,f6,f7]
  clear A
  conv=>arg 2;whnf
  clear f0 f3 f4 f5 f6 f7 h
  clear his
  obtain ⟨sa,sc,hsv⟩:=own_form HREF.out.own
  subst hsv
  have HB:=hI (λU=>inB_calls n 0 ((G.saves.length:Int)-1) U)
  rw [hB] at HB
  clear hR hx
  have hsl:G.saves.length<=9223372036854775807:=by have k:G.saves.length<=maxLen:=(Lies.of_owns HREF.out.own).2.1;unfold maxLen at k;exact k
  go_upto_region 41 with fail
  go_quiet ((go_at_call 16;exact Calls.quiet_of_same ((HB.out _).mono (λ_ _ h=>⟨h.1,h.2.symm⟩))))
  go_wp2_with (go_at_call 26;go_loud (refine (rno2_calls _ HY.out (show Below W.heap.size W _ from bel9)).mono ?_;rintro e w9 ⟨rfl,K9,kz9,by9,z0,z1,z2,z3,zf⟩))
  refine bodyPost_ret (results_cell_row rfl _ _ _ _ _ _ _ rfl (reply_blk by9 _ _ _ _) Tryz.underlying35 rfl kR) rfl ?_
  exact rdo_end (m:=W.heap.size) (HREF.out.below K9) HRR.out HM.out (HO.out.more K9) (M.no 3) oN oN _ _ _ _
 ·obtain ⟨i,rfl⟩:∃i:Nat,n=(i:Int):=⟨n.toNat,by omega⟩
  have hi:i<G.saves.length:=by omega
  obtain ⟨d,hd⟩:∃d,G.saves[i]?=some d:=⟨_,List.getElem?_eq_getElem hi⟩
  rw [show M.doAct G ⟨8,id,(i:Int),mask,row,box⟩=({more G with w:=d},M.no 0) by unfold M.doAct;rw [if_neg bO];simp only;rw [if_neg bO,if_neg bO,if_neg bO,if_neg bO,if_neg bO,if_neg bO,if_pos trivial,if_neg hn];simp [List.getD_eq_getElem?_getD,hd]]
  have hB:M.inB (i:Int) 0 ((G.saves.length:Int)-1)=true:=by rw [hb];simp;omega
  clear hb
  obtain ⟨is,his⟩:∃t,(M.at_ G.w.things id).isSome=t:=⟨_,rfl⟩
  refine rdo_begin h _ hx.1.2.1 h0 hlt (λf gt W F A=>?_)
  obtain ⟨f0,f3,f4,f5,f6,f7⟩:=F
  simp only [his] at f7
  obtain ⟨x0,x1,x2,x3,x4,x5,x6,x7,x8,x9,x10,x11,x12,x13,x14,x15,x16⟩:=act_cells A.act
  obtain ⟨y0,y1,y2,y3⟩:=four_cells A.rep
  obtain ⟨g0,g1,g2,g3,g4,g5,g6⟩:=game_cells A.ref.blk
  obtain ⟨yf,gf,lx,ly,lg,gp,HREF,HO,HY,HBG,HM,ng1,ng2,ng3,ng4⟩:=rdo_facts A hR
  have HA:=hI A
  have HRR:=hI hR
  simp only [fr406,f0,f3,f4,f5,f6,f7]
  clear A
  conv=>arg 2;whnf
  clear f0 f3 f4 f5 f6 f7 h
  clear his
  obtain ⟨sb,sc,hsv,_,lsb⟩:=own_val HREF.out.own (by show 0<G.saves.length;omega)
  subst hsv
  have HB:=hI (λU=>inB_calls (i:Int) 0 ((G.saves.length:Int)-1) U)
  rw [hB] at HB
  clear hR hx
  have hsl:G.saves.length<=9223372036854775807:=by have k:G.saves.length<=maxLen:=(Lies.of_owns HREF.out.own).2.1;unfold maxLen at k;exact k
  obtain ⟨xb,hmx,c0,c1,c2,c3,c4⟩:=rsave_cells (G:=more G) HREF.out hd
  have HMX:=hI hmx
  have gd:=hG.saves d (List.mem_of_getElem? hd)
  have hm10:M.size d.things<=maxLen:=Nat.le_trans gd.things.2.2.2.1 (by unfold maxLen;decide)
  go_upto_region 41 with fail
  go_quiet ((go_at_call 16;exact Calls.quiet_of_same ((HB.out _).mono (λ_ _ h=>⟨h.1,h.2.symm⟩))))
  go_upto_region 43 with fail
  refine wp_called (λW1 hW1=>?_)
  have K1:Below W.heap.size W W1:=by rw [hW1];exact bel9
  clear hW1
  have KK:=hI (λ(U:World) (hb:Below W1.drew.heap.size W1.drew U)=>K1.trans ((((Below.refl _ W1).drew).trans hb).mono K1.size))
  refine DG.wp_named (λA hA=>?_)
  show Code.wp Tryz.prog r43C _ _ _
  rw [r43C_is]
  refine wp_region_any kR ?_
  rw [r43Ops_size]
  show wpAny _ _ _ _ _ _ _ W1.drew
  refine r43_region (g:=g) (p3:=w.heap.size) (sb:=sb) (i:=i) (N:=G.saves.length) (sc:=sc) (x:=xb) (next:=d.things.next) (fall:=d.fall) (wide:=d.wide) (high:=d.high) (f:=M.at_ d.things) (c:=M.size d.things) (W0:=W1.drew) ⟨by rw [hA];rfl,by rw [hA];rfl,hi,hsl,λU hb=>(HBG.out.below (KK.out U hb) lg).cell 5,λU hb=>(HA.out.act.below (KK.out U hb) lx).cell 2,λU hb=>⟨((KK.out U hb).cell (p:=⟨sb,i*5,none⟩) lsb).trans c0,((KK.out U hb).cell (p:=⟨sb,i*5+1,none⟩) lsb).trans c1,((KK.out U hb).cell (p:=⟨sb,i*5+2,none⟩) lsb).trans c2,((KK.out U hb).cell (p:=⟨sb,i*5+3,none⟩) lsb).trans c3,((KK.out U hb).cell (p:=⟨sb,i*5+4,none⟩) lsb).trans c4⟩,λU hb=>⟨_,_,_,_,_,(HBG.out.below (KK.out U hb) lg).cell 0,(HBG.out.below (KK.out U hb) lg).cell 1,(HBG.out.below (KK.out U hb) lg).cell 2,(HBG.out.below (KK.out U hb) lg).cell 3,(HBG.out.below (KK.out U hb) lg).cell 4⟩,λU hb q=>(HBG.out.below (KK.out U hb) lg).free q,λU hb=>wcopy_calls (HMX.out.below (KK.out U hb) HMX.out.lt) hm10 d.things.next d.fall d.wide d.high⟩ rA (by rw [hA]) 0 (by unfold r43Mem;exact ⟨_,Below.refl _ _,(λe=>by cases e),by rw [if_neg sS]⟩) ?_
  intro gg ll W4 hll hmm
  unfold r43Mem at hmm
  obtain ⟨U,hbel,h9,hW⟩:=hmm
  obtain ⟨hm9,hs9⟩:=h9 (hll 9 dC)
  rw [if_pos (hll 12 dC)] at hW
  have KU:=KK.out U hbel
  refine next_frame rA [0,3,4,5] (by rfl) (λf9 k9=>?_)
  have e0:f9 0=.pointer (some ⟨g,0,none⟩):=(k9 0 dC).trans rA
  have e3:f9 3=.pointer (some ⟨w.heap.size,0,none⟩):=(k9 3 dC).trans rA
  have e4:f9 4=.pointer (some ⟨w.heap.size+1,0,none⟩):=(k9 4 dC).trans rA
  have e5:f9 5=.func (.func 26) #[] #[]:=(k9 5 dC).trans rA
  clear k9 hA A
  simp only [fr406,e0,e3,e4,e5]
  clear e0 e3 e4 e5
  have bU:=HBG.out.below KU lg
  have hb2:W.heap.size<=gg:=Nat.le_trans K1.size hs9
  have nb:gg≠g:=ne_new lg hb2
  have HB4:Hid (Blk W4 g 58 (refC gg (.slice (some ⟨sb,0,none⟩) G.saves.length sc) {more G with w:=d})):=hI (by rw [hW];exact blk_to (((((bU.put 0 _).put 1 _).put 2 _).put 3 _).put 4 _) (by rfl))
  have HK4:Hid (Only (Own9 g w) W W4):=hI (by rw [hW];exact ((((((Only.refl (Own9 g w) W).more KU).setCell (p:=⟨g,0,none⟩) (.inl (.inl rfl)) _).setCell (p:=⟨g,1,none⟩) (.inl (.inl rfl)) _).setCell (p:=⟨g,2,none⟩) (.inl (.inl rfl)) _).setCell (p:=⟨g,3,none⟩) (.inl (.inl rfl)) _).setCell (p:=⟨g,4,none⟩) (.inl (.inl rfl)) _)
  have HM4:Hid (MapA W4 gg (M.at_ d.things) (M.size d.things)):=hI (by rw [hW];exact (((((hm9).far (p:=⟨g,0,none⟩) nb _).far (p:=⟨g,1,none⟩) nb _).far (p:=⟨g,2,none⟩) nb _).far (p:=⟨g,3,none⟩) nb _).far (p:=⟨g,4,none⟩) nb _)
  have HR4:Hid (Blk W4 (w.heap.size+1) 35 #[.int .i64 0,.int .i64 0,.slice none 0 0,.slice none 0 0]):=hI (by rw [hW];exact (((((HY.out.below KU ly).far (p:=⟨g,0,none⟩) ng4 _).far (p:=⟨g,1,none⟩) ng4 _).far (p:=⟨g,2,none⟩) ng4 _).far (p:=⟨g,3,none⟩) ng4 _).far (p:=⟨g,4,none⟩) ng4 _)
  clear hW
  obtain ⟨y0,y1,y2,y3⟩:=four_cells HR4.out
  have yf:=λi=>HR4.out.free i
  have ly4:=HR4.out.lt
  go_wp2_with (go_at_call 26;go_loud (refine (rno2_calls _ HR4.out (show Below W4.heap.size W4 _ from bel9)).mono ?_;rintro e w9 ⟨rfl,K9,kz9,by9,z0,z1,z2,z3,zf⟩))
  refine bodyPost_ret (results_cell_row rfl _ _ _ _ _ _ _ rfl (reply_blk by9 _ _ _ _) Tryz.underlying35 rfl kR) rfl ?_
  exact rdo_end (m:=W.heap.size) ((HREF.out.made2 HRR.out (G':={more G with w:=d}) HK4.out HB4.out rfl hb2 HM4.out).below K9) HRR.out HM.out ((HO.out.own9 HK4.out HA.out.ref.inR).more K9) (M.no 0) oN oN _ _ _ _
theorem infoRW:(Tryz.prog.info? 46).map (λi=>(i.zero,i.size,i.bytes))=some (some (.agg #[.map none,.int .i64 0,.int .i64 0,.int .i64 0,.int .i64 0]),5,40):=by kernel_rfl
theorem Only.grownR {Q:Nat->Prop} {w a b:World} {row:Option Nat} (h:Only Q w a) (hg:a.grownBy b row) (hr:∀k,row=some k->Q k\/w.heap.size<=k):Only Q w b:=
 ⟨hg.os.trans h.os,hg.tape.trans h.tape,hg.output.trans h.output,Nat.le_trans h.size hg.size,λx h1 h2=>(hg.block x (Nat.lt_of_lt_of_le h1 h.size) (λe=>by rcases hr x e.symm with q|q<;>first|exact h2 q|omega)).trans (h.block x h1 h2)⟩
theorem RefAt.saved {R:Nat->Prop} {W U V:World} {m g:Nat} {G:M.Game} {b x:Nat} {sv nv:Value} {hs:List Nat} (h:RefAt W (λy=>R y\/m<=y) g G b sv hs) (hm:m<=W.heap.size) (KU:Below W.heap.size W U) (hg:U.grownBy V sv.ownBlock)
  (own:V.ownsRow 0 46 5 nv (G.saves.length+1) (rsaveL G.saves hs++[.map (some x),.int .i64 G.w.things.next,.int .i64 G.w.fall,.int .i64 G.w.wide,.int .i64 G.w.high]))
  (hat:nv.ownBlock=sv.ownBlock\/nv.ownBlock=some U.heap.size) (hx:MapA U x (M.at_ G.w.things) (M.size G.w.things)) (hx0:W.heap.size<=x):
  RefAt (V.setCell ⟨g,5,none⟩ nv) (λy=>R y\/m<=y) g {G with saves:=G.saves++[G.w]} b nv (hs++[x]):=by
 have lg:=h.blk.lt
 have hzU:=KU.size
 have hlen:hs.length=G.saves.length:=h.len
 have nvg:nv.ownBlock≠some g:=λe=>by
  rcases hat with q|q
  ·exact (h.ov g (q▸e)).2 rfl
  ·rw [q] at e;simp at e;omega
 have far:∀y,y≠g->(V.setCell ⟨g,5,none⟩ nv).heap[y]?=V.heap[y]?:=λy hy=>bS _ _ _ y hy
 have old:∀y,y<W.heap.size->sv.ownBlock≠some y->V.heap[y]?=W.heap[y]?:=λy h1 h2=>(hg.block y bO (λe=>h2 e.symm)).trans (KU.block y h1)
 have inG:∀y,InG (λy=>R y\/m<=y) g sv y->y<W.heap.size->InG (λy=>R y\/m<=y) g nv y:=λy k hy=>⟨k.1,k.2.1,λe=>by
  rcases hat with q|q
  ·exact k.2.2 (q▸e)
  ·rw [q] at e;simp at e;omega⟩
 refine ⟨?_,h.inR,⟨inG b h.map.1 h.map.2.lt,?_⟩,?_,?_,?_,?_⟩
 ·have bV:Blk V g 58 (refC b sv G):=(old g lg (λe=>(h.ov g e).2 rfl)).trans h.blk
  exact blk_to (bV.put 5 nv) (by rfl)
 ·exact h.map.2.block ((far b h.map.1.2.1).trans (old b h.map.2.lt h.map.1.2.2))
 ·have e:rsaveL (G.saves++[G.w]) (hs++[x])=rsaveL G.saves hs++[.map (some x),.int .i64 G.w.things.next,.int .i64 G.w.fall,.int .i64 G.w.wide,.int .i64 G.w.high]:=by
   unfold rsaveL
   rw [List.zip_append (by exact hlen.symm),List.flatMap_append]
   rfl
  have k:=own_same own (w':=V.setCell ⟨g,5,none⟩ nv) (λy e=>far y (λq=>nvg (q▸e)))
  show (V.setCell ⟨g,5,none⟩ nv).ownsRow 0 46 5 nv (G.saves++[G.w]).length (rsaveL (G.saves++[G.w]) (hs++[x]))
  rw [e,List.length_append]
  exact k
 ·show (hs++_).length=(G.saves++[G.w]).length
  rw [List.length_append,List.length_append,hlen]
  rfl
 ·intro y e
  rcases hat with q|q
  ·exact h.ov y (q▸e)
  ·rw [q] at e
   simp at e
   exact ⟨.inr bO,by omega⟩
 ·intro i d y h1 h2
  rcases Nat.lt_or_ge i G.saves.length with hi|hi
  ·obtain ⟨k1,k2⟩:=h.each i d y ((List.getElem?_append_left hi).symm.trans h1) ((List.getElem?_append_left bO).symm.trans h2)
   exact ⟨inG y k1 k2.lt,k2.block ((far y k1.2.1).trans (old y k2.lt k1.2.2))⟩
  ·have h1':(G.saves++[G.w])[i]?=some d:=h1
   rw [List.getElem?_append_right hi] at h1'
   rw [List.getElem?_append_right bO] at h2
   have hi0:i=G.saves.length:=by
    have:=(List.getElem?_eq_some_iff.1 h1').1
    simp at this
    omega
   subst hi0
   rw [hlen] at h2
   simp at h1' h2
   subst h1' h2
   have lx:=hx.lt
   have nx:x≠g:=by omega
   have ns:sv.ownBlock≠some x:=λe=>by have:=(h.own.lt x e).2;omega
   refine ⟨⟨.inr bO,nx,λe=>?_⟩,hx.block ((far x nx).trans (hg.block x lx (λe=>ns e.symm)))⟩
   rcases hat with q|q
   ·exact ns (q▸e)
   ·rw [q] at e
    simp at e
    omega
noncomputable def r38C:Code:=((Tryz.f10.body.bind (regionOf 38)).getD .skip)
noncomputable def r38Ops:Array Oper:=match r38C with
 | .region _ ops _=>ops
 |_=>#[]
theorem r38C_is:r38C=.region 38 r38Ops true:=by kernel_rfl
theorem r38Ops_size:r38Ops.size=15:=by kernel_rfl
def r38Slot (k:Nat):Option Nat:=([some 164,some 165,some 166,some 167,some 168,some 169,some 170,some 171,some 172,some 173,some 174,some 175,some 176,some 177,none]:List (Option Nat)).getD k none
def r38Val (g b N sc:Nat) (sa:Option Addr) (next fall wide high:Int) (f:Int->Option M.Th) (c:Nat) (xs:List Value) (ac:Value) (gg:(Nat×Nat×(Option Addr×Nat))) (k9:Nat):Value:=([.pointer (some ⟨g,0,none⟩),.pointer (some ⟨g,0,none⟩),.pointer (some ⟨g,0,none⟩),.pointer (some ⟨g,5,none⟩),Value.slice sa N sc,.pointer (some ⟨g,0,none⟩),.pointer (some ⟨g,0,none⟩),.pointer (some ⟨g,0,none⟩),.agg #[.map (some b),.int .i64 next,.int .i64 fall,.int .i64 wide,.int .i64 high],.agg #[.map (some gg.1),.int .i64 next,.int .i64 fall,.int .i64 wide,.int .i64 high],.slice (some ⟨gg.2.1,0,none⟩) 1 1,Value.slice gg.2.2.1 (N+1) gg.2.2.2,.pointer (some ⟨g,0,none⟩),.pointer (some ⟨g,5,none⟩),undef]:List Value).getD k9 undef
def r38Needs (k:Nat):List Nat:=([[],[],[1],[2],[3],[],[5],[6],[7],[8],[9],[4,10],[0],[12],[11,13]]:List (List Nat)).getD k []
def r38Mem (g b N sc:Nat) (sa:Option Addr) (next fall wide high:Int) (f:Int->Option M.Th) (c:Nat) (xs:List Value) (ac:Value) (W0:World) (gg:(Nat×Nat×(Option Addr×Nat))) (ll:Array Bool) (W:World):Prop:=∃U V,Below W0.heap.size W0 U/\(ll.getD 9 false=true->MapA U gg.1 f c/\W0.heap.size<=gg.1)/\(ll.getD 10 false=true->W0.heap.size<=gg.2.1/\∀(j:Nat) (u:Value),([.map (some gg.1),.int .i64 next,.int .i64 fall,.int .i64 wide,.int .i64 high]:List Value)[j]?=some u->U.cell? ⟨gg.2.1,j,none⟩=some u)/\(if ll.getD 11 false=true then U.grownBy V (Value.slice sa N sc).ownBlock/\V.ownsRow 0 46 5 (Value.slice gg.2.2.1 (N+1) gg.2.2.2) (N+1) (xs++[.map (some gg.1),.int .i64 next,.int .i64 fall,.int .i64 wide,.int .i64 high])/\((Value.slice gg.2.2.1 (N+1) gg.2.2.2).ownBlock=(Value.slice sa N sc).ownBlock\/(Value.slice gg.2.2.1 (N+1) gg.2.2.2).ownBlock=some U.heap.size) else V=U)/\W=(if ll.getD 14 false=true then V.setCell ⟨g,5,none⟩ (Value.slice gg.2.2.1 (N+1) gg.2.2.2) else V)
noncomputable def r38K (g b N sc:Nat) (sa:Option Addr) (next fall wide high:Int) (f:Int->Option M.Th) (c:Nat) (xs:List Value) (ac:Value) (a0:Act) (W0:World):DG ((Nat×Nat×(Option Addr×Nat))):={P:=Tryz.prog,ops:=r38Ops,a0:=a0,n:=15,slot:=r38Slot,val:=r38Val g b N sc sa next fall wide high f c xs ac,needs:=r38Needs,mem:=r38Mem g b N sc sa next fall wide high f c xs ac W0}
section
variable {g b N sc:Nat} {sa:Option Addr} {next fall wide high:Int} {f:Int->Option M.Th} {c:Nat} {xs:List Value} {ac:Value}
variable {a0 fr:Act} {W0 W:World} {Q:Exit->Act->World->Prop} {gg:(Nat×Nat×(Option Addr×Nat))} {ll:Array Bool} {k:Nat}
structure r38Ok (g b N sc:Nat) (sa:Option Addr) (next fall wide high:Int) (f:Int->Option M.Th) (c:Nat) (xs:List Value) (ac:Value) (a0:Act) (W0:World):Prop where
 h0:a0.eval (.tmp 0)=.pointer (some ⟨g,0,none⟩)
 few:N<=3
 c5:∀W,Below W0.heap.size W0 W->W.cell? ⟨g,5,none⟩=some (Value.slice sa N sc)
 cg:∀W,Below W0.heap.size W0 W->W.cell? ⟨g,0,none⟩=some (.map (some b))/\W.cell? ⟨g,1,none⟩=some (.int .i64 next)/\W.cell? ⟨g,2,none⟩=some (.int .i64 fall)/\W.cell? ⟨g,3,none⟩=some (.int .i64 wide)/\W.cell? ⟨g,4,none⟩=some (.int .i64 high)
 own:W0.ownsRow 0 46 5 (Value.slice sa N sc) N xs
 bg:∀W,Below W0.heap.size W0 W->Blk W g 58 #[.map (some b),.int .i64 next,.int .i64 fall,.int .i64 wide,.int .i64 high,Value.slice sa N sc,ac]
 ng:(Value.slice sa N sc).ownBlock≠some g
 cc:∀W,Below W0.heap.size W0 W->Calls Tryz.prog 28 #[.agg #[.map (some b),.int .i64 next,.int .i64 fall,.int .i64 wide,.int .i64 high]] W λe W'=>∃b',e=.returned (.agg #[.map (some b'),.int .i64 next,.int .i64 fall,.int .i64 wide,.int .i64 high])/\MapA W' b' f c/\W.heap.size<=b'/\Below W.heap.size W W'
theorem r38_v (F:(r38K g b N sc sa next fall wide high f c xs ac a0 W0).Facts k gg ll fr W) (j s:Nat) (h1:j∈r38Needs k) (h2:r38Slot j=some s):fr.eval (.tmp s)=r38Val g b N sc sa next fall wide high f c xs ac gg j:=F.vals j s h1 h2
theorem r38_z (F:(r38K g b N sc sa next fall wide high f c xs ac a0 W0).Facts k gg ll fr W):ll.size=15:=F.size
theorem r38_keep (F:(r38K g b N sc sa next fall wide high f c xs ac a0 W0).Facts k gg ll fr W) (n9:k≠9) (n10:k≠10) (n11:k≠11) (n14:k≠14):r38Mem g b N sc sa next fall wide high f c xs ac W0 gg (ll.setIfInBounds k true) W:=by
 have h9:r38Mem g b N sc sa next fall wide high f c xs ac W0 gg ll W:=F.mem
 unfold r38Mem at h9⊢
 rw [DG.set_ne n9,DG.set_ne n10,DG.set_ne n11,DG.set_ne n14]
 exact h9
theorem r38_x {p:Prop} (h:p:=by show Oper.wp Tryz.prog oo fr W K Q;unfold Oper.wp;(try simp only [r38K,r38Val,DG.gz,DG.gs] at e);simp only [execOp,hop,e,mA,mC,mN];go_simp;exact hK gg _ (λ_ _ _ _=>rfl) (r38_keep F dC dC dC dC)):p:=h
theorem r38_ok (ok:r38Ok g b N sc sa next fall wide high f c xs ac a0 W0) (hz:a0.tmps.size=406):(r38K g b N sc sa next fall wide high f c xs ac a0 W0).Ok Q:=by
 refine DG.ok_of r38Ops_size kR kR (by rfl) hz (by rfl) ?_
 ·intro k hk
  rcases (show k=0\/k=1\/k=2\/k=3\/k=4\/k=5\/k=6\/k=7\/k=8\/k=9\/k=10\/k=11\/k=12\/k=13\/k=14 from by have k9:k<15:=hk;omega) with rfl|rfl|rfl|rfl|rfl|rfl|rfl|rfl|rfl|rfl|rfl|rfl|rfl|rfl|rfl
  ·exact .ofo 0 ok.h0 (x:=(.move (.tmp 0),some 164)) (H:=λgg ll fr W F oo hop hd K hK e=>r38_x)
  ·exact .ofo 0 ok.h0 (x:=(.move (.tmp 0),some 165)) (H:=λgg ll fr W F oo hop hd K hK e=>r38_x)
  ·exact .of1 1 165 (x:=(.nilCheck (.tmp 165),some 166)) (H:=λgg ll fr W F oo hop hd K hK e=>r38_x)
  ·exact .of1 2 166 (x:=(.fieldAddr 58 (.tmp 166) 1,some 167)) (H:=λgg ll fr W F oo hop hd K hK e=>r38_x)
  ·refine .of1 3 167 (x:=(.load 56 (.tmp 167),some 168)) (H:=λgg ll fr W F oo hop hd K hK e=>?_)
   have l14:ll.getD 14 false=false:=(F.up (show 11∈r38Needs 14 from by decide) (F.before (show 4∈r38Needs 11 from by decide)))
   have l11:ll.getD 11 false=false:=(F.before (show 4∈r38Needs 11 from by decide))
   obtain ⟨U,V,hbel,h9,h10,h11,hW⟩:=F.mem
   rw [if_neg (by rw [l14];simp)] at hW
   rw [if_neg (by rw [l11];simp)] at h11
   subst h11
   subst hW
   have u0:=ok.c5 W hbel
   exact r38_x
  ·exact .ofo 0 ok.h0 (x:=(.move (.tmp 0),some 169)) (H:=λgg ll fr W F oo hop hd K hK e=>r38_x)
  ·exact .of1 5 169 (x:=(.nilCheck (.tmp 169),some 170)) (H:=λgg ll fr W F oo hop hd K hK e=>r38_x)
  ·exact .of1 6 170 (x:=(.fieldAddr 58 (.tmp 170) 0,some 171)) (H:=λgg ll fr W F oo hop hd K hK e=>r38_x)
  ·refine .of1 7 171 (x:=(.load 46 (.tmp 171),some 172)) (H:=λgg ll fr W F oo hop hd K hK e=>?_)
   have l14:ll.getD 14 false=false:=(F.up (show 11∈r38Needs 14 from by decide) (F.up (show 10∈r38Needs 11 from by decide) (F.up (show 9∈r38Needs 10 from by decide) (F.before (show 8∈r38Needs 9 from by decide)))))
   have l11:ll.getD 11 false=false:=(F.up (show 10∈r38Needs 11 from by decide) (F.up (show 9∈r38Needs 10 from by decide) (F.before (show 8∈r38Needs 9 from by decide))))
   obtain ⟨U,V,hbel,h9,h10,h11,hW⟩:=F.mem
   rw [if_neg (by rw [l14];simp)] at hW
   rw [if_neg (by rw [l11];simp)] at h11
   subst h11
   subst hW
   obtain ⟨u0,u1,u2,u3,u4⟩:=ok.cg W hbel
   exact r38_x
  ·refine .of (x:=(.call {callee:=.value (.func 28),args:=#[.tmp 172],argTypes:=#[46]},some 173)) kR λgg ll fr W F oo hop hd K hK=>?_
   have e8:=r38_v F 8 172 dC rfl
   simp only [r38Val,DG.gz,DG.gs] at e8
   have l14:ll.getD 14 false=false:=(F.up (show 11∈r38Needs 14 from by decide) (F.up (show 10∈r38Needs 11 from by decide) (F.before (show 9∈r38Needs 10 from by decide))))
   have l11:ll.getD 11 false=false:=(F.up (show 10∈r38Needs 11 from by decide) (F.before (show 9∈r38Needs 10 from by decide)))
   obtain ⟨U,V,hbel,h9,h10,h11,hW⟩:=F.mem
   rw [if_neg (by rw [l14];simp)] at hW
   rw [if_neg (by rw [l11];simp)] at h11
   subst h11
   subst hW
   show oo.wp Tryz.prog fr W K Q
   unfold Oper.wp
   simp only [execOp,hop,e8,mA,mC,mN]
   go_simp
   try simp only [DG.tmps_eval,e8]
   refine (ok.cc W hbel).mono ?_
   rintro e W2 ⟨b9,rfl,hm9,hs9,hb9⟩
   refine hK (b9,gg.2) W2 ?_ (show r38Mem g b N sc sa next fall wide high f c xs ac W0 (b9,gg.2) (ll.setIfInBounds 9 true) W2 from ?_)
   ·intro j hj hne hl
    have hj':j<15:=hj
    rcases (by omega:j=0\/j=1\/j=2\/j=3\/j=4\/j=5\/j=6\/j=7\/j=8\/j=9\/j=10\/j=11\/j=12\/j=13\/j=14) with rfl|rfl|rfl|rfl|rfl|rfl|rfl|rfl|rfl|rfl|rfl|rfl|rfl|rfl|rfl<;>first|rfl|exact absurd rfl hne|(exfalso;have q:=F.closed 10 9 (show 9∈r38Needs 10 from by decide) hl;rw [F.not] at q;cases q)
   ·unfold r38Mem
    have l10:ll.getD 10 false=false:=F.before (show 9∈r38Needs 10 from by decide)
    rw [DG.set_ne (i:=9) (k:=10) dC,DG.set_ne (i:=9) (k:=11) dC,DG.set_ne (i:=9) (k:=14) dC,l10,l11,l14]
    exact ⟨W2,W2,hbel.trans (hb9.mono hbel.size),λ_=>⟨hm9,Nat.le_trans hbel.size hs9⟩,(λe=>by cases e),by rw [if_neg sS],by rw [if_neg sS]⟩
  ·refine .of (x:=(.buildSlice 56 1 #[(0,.tmp 173)],some 174)) kR λgg ll fr W F oo hop hd K hK=>?_
   have e9:=r38_v F 9 173 dC rfl
   simp only [r38Val,DG.gz,DG.gs] at e9
   have l14:ll.getD 14 false=false:=(F.up (show 11∈r38Needs 14 from by decide) (F.before (show 10∈r38Needs 11 from by decide)))
   have l11:ll.getD 11 false=false:=(F.before (show 10∈r38Needs 11 from by decide))
   obtain ⟨U,V,hbel,h9,h10,h11,hW⟩:=F.mem
   rw [if_neg (by rw [l14];simp)] at hW
   rw [if_neg (by rw [l11];simp)] at h11
   subst h11
   subst hW
   obtain ⟨hm9,hs9⟩:=h9 (F.listed 9 (show 9∈r38Needs 10 from by decide))
   show oo.wp Tryz.prog fr W K Q
   unfold Oper.wp
   simp only [execOp,hop,e9,mA,mC,mN]
   go_simp
   refine hK (gg.1,W.heap.size,gg.2.2) _ ?_ (show r38Mem g b N sc sa next fall wide high f c xs ac W0 (gg.1,W.heap.size,gg.2.2) (ll.setIfInBounds 10 true) (W.alloc (.cells #[.map (some gg.1),.int .i64 next,.int .i64 fall,.int .i64 wide,.int .i64 high] 46)) from ?_)
   ·intro j hj hne hl
    have hj':j<15:=hj
    rcases (by omega:j=0\/j=1\/j=2\/j=3\/j=4\/j=5\/j=6\/j=7\/j=8\/j=9\/j=10\/j=11\/j=12\/j=13\/j=14) with rfl|rfl|rfl|rfl|rfl|rfl|rfl|rfl|rfl|rfl|rfl|rfl|rfl|rfl|rfl<;>first|rfl|exact absurd rfl hne|(exfalso;have q:=F.closed 11 10 (show 10∈r38Needs 11 from by decide) hl;rw [F.not] at q;cases q)
   ·unfold r38Mem
    rw [DG.set_ne (i:=10) (k:=9) dC,DG.set_ne (i:=10) (k:=11) dC,DG.set_ne (i:=10) (k:=14) dC,l11,l14]
    refine ⟨_,_,hbel.alloc hbel.size _,λ_=>⟨hm9.alloc _,hs9⟩,λ_=>⟨hbel.size,λj u hj=>?_⟩,by rw [if_neg sS],by rw [if_neg sS]⟩
    exact ((Blk.new W 46 #[.map (some gg.1),.int .i64 next,.int .i64 fall,.int .i64 wide,.int .i64 high]).cell j).trans (by simpa using hj)
  ·refine .of (x:=(.call {callee:=.builtin .append,args:=#[.tmp 168,.tmp 174],argTypes:=#[56,56]},some 175)) kR λgg ll fr W F oo hop hd K hK=>?_
   have e4:=r38_v F 4 168 dC rfl
   have e10:=r38_v F 10 174 dC rfl
   simp only [r38Val,DG.gz,DG.gs] at e4 e10
   have hz:11<ll.size:=by rw [r38_z F];decide
   have l14:ll.getD 14 false=false:=(F.before (show 11∈r38Needs 14 from by decide))
   have l11:ll.getD 11 false=false:=F.not
   obtain ⟨U,V,hbel,h9,h10,h11,hW⟩:=F.mem
   rw [if_neg (by rw [l14];simp)] at hW
   rw [if_neg (by rw [l11];simp)] at h11
   subst h11
   subst hW
   obtain ⟨hs10,hc10⟩:=h10 (F.listed 10 (show 10∈r38Needs 11 from by decide))
   obtain ⟨i0,hi,hz0,hz1,hz2⟩:=info_parts infoRW
   obtain ⟨v9,w9,hr,ho9,hg9,_,ha9⟩:=run_append_own_at (P:=Tryz.prog) W 0 56 oo.type 46 i0 _ 5 40 Tryz.underlying56 hi hz0 hz1 hz2 rfl bO (Value.slice sa N sc) N xs (own_below ok.own hbel) ⟨gg.2.1,0,none⟩ 1 1 [.map (some gg.1),.int .i64 next,.int .i64 fall,.int .i64 wide,.int .i64 high] rfl (λj u hj=>by rw [Addr.add_lit];simpa using hc10 j u hj) (by intro u hu;simp at hu;rcases hu with rfl|rfl|rfl|rfl|rfl<;>rfl) (by unfold maxLen;have:=ok.few;omega) (by have:=ok.few;omega) (Nat.zero_le _)
   obtain ⟨ga,gc,rfl⟩:=own_form ho9
   show oo.wp Tryz.prog fr W K Q
   unfold Oper.wp
   simp only [execOp,hop,e4,e10,mA,mC,mN]
   simp [resolve,invoke,builtin,e4,e10,hr,Result.andThen]
   go_simp
   refine hK (gg.1,gg.2.1,(ga,gc)) w9 ?_ (show r38Mem g b N sc sa next fall wide high f c xs ac W0 (gg.1,gg.2.1,(ga,gc)) (ll.setIfInBounds 11 true) w9 from ?_)
   ·intro j hj hne hl
    have hj':j<15:=hj
    rcases (by omega:j=0\/j=1\/j=2\/j=3\/j=4\/j=5\/j=6\/j=7\/j=8\/j=9\/j=10\/j=11\/j=12\/j=13\/j=14) with rfl|rfl|rfl|rfl|rfl|rfl|rfl|rfl|rfl|rfl|rfl|rfl|rfl|rfl|rfl<;>first|rfl|exact absurd rfl hne|(exfalso;have q:=F.closed 14 11 (show 11∈r38Needs 14 from by decide) hl;rw [F.not] at q;cases q)
   ·unfold r38Mem
    rw [DG.set_ne (i:=11) (k:=9) dC,DG.set_ne (i:=11) (k:=10) dC,DG.set_eq hz,DG.set_ne (i:=11) (k:=14) dC,l14]
    exact ⟨W,w9,hbel,h9,h10,by rw [if_pos rfl];exact ⟨hg9,ho9,ha9⟩,by rw [if_neg sS]⟩
  ·exact .of1 0 164 (x:=(.nilCheck (.tmp 164),some 176)) (H:=λgg ll fr W F oo hop hd K hK e=>r38_x)
  ·exact .of1 12 176 (x:=(.fieldAddr 58 (.tmp 176) 1,some 177)) (H:=λgg ll fr W F oo hop hd K hK e=>r38_x)
  ·refine .of (x:=(.store 56 (.tmp 177) (.tmp 175),none)) kR λgg ll fr W F oo hop hd K hK=>?_
   have e11:=r38_v F 11 175 dC rfl
   have e13:=r38_v F 13 177 dC rfl
   simp only [r38Val,DG.gz,DG.gs] at e11 e13
   have hz:14<ll.size:=by rw [r38_z F];decide
   have l14:ll.getD 14 false=false:=F.not
   have t11:ll.getD 11 false=true:=F.listed 11 (show 11∈r38Needs 14 from by decide)
   obtain ⟨U,V,hbel,h9,h10,h11,hW⟩:=F.mem
   rw [if_neg (by rw [l14];simp)] at hW
   rw [if_pos t11] at h11
   subst hW
   obtain ⟨hg9,ho9,ha9⟩:=h11
   have b9:=Blk.grown (ok.bg U hbel) hg9 ok.ng
   have u0:=b9.cell 5
   have fz:=λi=>b9.free i
   simp at u0
   show oo.wp Tryz.prog fr W K Q
   unfold Oper.wp
   simp only [execOp,hop,e11,e13,mA,mC,mN]
   go_simp
   exact hK gg _ (λ_ _ _ _=>rfl) (show r38Mem g b N sc sa next fall wide high f c xs ac W0 gg (ll.setIfInBounds 14 true) _ from by unfold r38Mem;rw [DG.set_eq hz,DG.set_ne (i:=14) (k:=9) dC,DG.set_ne (i:=14) (k:=10) dC,DG.set_ne (i:=14) (k:=11) dC];exact ⟨U,W,hbel,h9,h10,by rw [if_pos t11];exact ⟨hg9,ho9,ha9⟩,(if_pos rfl).symm⟩)
abbrev r38L (g b N sc:Nat) (sa:Option Addr) (next fall wide high:Int) (f:Int->Option M.Th) (c:Nat) (xs:List Value) (ac:Value) (gg:(Nat×Nat×(Option Addr×Nat))):List (Nat×Value):=[(164,r38Val g b N sc sa next fall wide high f c xs ac gg 0),(165,r38Val g b N sc sa next fall wide high f c xs ac gg 1),(166,r38Val g b N sc sa next fall wide high f c xs ac gg 2),(167,r38Val g b N sc sa next fall wide high f c xs ac gg 3),(168,r38Val g b N sc sa next fall wide high f c xs ac gg 4),(169,r38Val g b N sc sa next fall wide high f c xs ac gg 5),(170,r38Val g b N sc sa next fall wide high f c xs ac gg 6),(171,r38Val g b N sc sa next fall wide high f c xs ac gg 7),(172,r38Val g b N sc sa next fall wide high f c xs ac gg 8),(173,r38Val g b N sc sa next fall wide high f c xs ac gg 9),(174,r38Val g b N sc sa next fall wide high f c xs ac gg 10),(175,r38Val g b N sc sa next fall wide high f c xs ac gg 11),(176,r38Val g b N sc sa next fall wide high f c xs ac gg 12),(177,r38Val g b N sc sa next fall wide high f c xs ac gg 13)]
theorem r38_region (ok:r38Ok g b N sc sa next fall wide high f c xs ac a0 W0) (hz:a0.tmps.size=406) (hd:a0.defers=[]) (g0:(Nat×Nat×(Option Addr×Nat))) (hm:r38Mem g b N sc sa next fall wide high f c xs ac W0 g0 (Array.replicate 15 false) W)
  (hQ:∀(gg:(Nat×Nat×(Option Addr×Nat))) (ll:Array Bool) (W':World),(∀k,k<15->ll.getD k false=true)->r38Mem g b N sc sa next fall wide high f c xs ac W0 gg ll W'->Q .normal ⟨DG.setQ a0.tmps (r38L g b N sc sa next fall wide high f c xs ac gg),[]⟩ W'):
  wpAny Tryz.prog .any r38Ops Q 15 (Array.replicate 15 false) a0 W:=
 DG.region2 (c:=r38K g b N sc sa next fall wide high f c xs ac a0 W0) (r38_ok ok hz) kR hd g0 hm (r38L g b N sc sa next fall wide high f c xs ac) (λ_=>rfl) hQ
end
theorem rdo_save {w:World} {R:Nat->Prop} {g:Nat} {G:M.Game} {b:Nat} {sv:Value} {hs:List Nat} (h:RefAt w R g G b sv hs) (hR:∀y,R y->y<w.heap.size) (hG:M.GoodG G) (kind id n mask:Int) (row:M.Row) (box:M.Box) (hk:kind=7) (h3:G.saves.length<=3) (h0:0<=G.acts) (hlt:G.acts<150) (hx:ActIn ⟨kind,id,n,mask,row,box⟩):
  Calls Tryz.prog 10 #[.pointer (some ⟨g,0,none⟩),actV ⟨kind,id,n,mask,row,box⟩] w (RefPost R w g (M.doAct G ⟨kind,id,n,mask,row,box⟩).1 (M.doAct G ⟨kind,id,n,mask,row,box⟩).2):=by
 subst hk
 by_cases hn:3<=G.saves.length
 ·rw [show M.doAct G ⟨7,id,n,mask,row,box⟩=(more G,M.no 5) by unfold M.doAct;rw [if_neg bO];simp only;rw [if_neg bO,if_neg bO,if_neg bO,if_neg bO,if_neg bO,if_pos trivial,if_pos hn]]
  have hq:((G.saves.length:Int)==3)=true:=by (first|(simp;done)|(simp;omega))
  obtain ⟨is,his⟩:∃t,(M.at_ G.w.things id).isSome=t:=⟨_,rfl⟩
  refine rdo_begin h _ hx.1.2.1 h0 hlt (λf gt W F A=>?_)
  obtain ⟨f0,f3,f4,f5,f6,f7⟩:=F
  simp only [his] at f7
  obtain ⟨x0,x1,x2,x3,x4,x5,x6,x7,x8,x9,x10,x11,x12,x13,x14,x15,x16⟩:=act_cells A.act
  obtain ⟨y0,y1,y2,y3⟩:=four_cells A.rep
  obtain ⟨g0,g1,g2,g3,g4,g5,g6⟩:=game_cells A.ref.blk
  obtain ⟨yf,gf,lx,ly,lg,gp,HREF,HO,HY,HBG,HM,ng1,ng2,ng3,ng4⟩:=rdo_facts A hR
  have HA:=hI A
  have HRR:=hI hR
  simp only [fr406,f0,f3,f4,f5,f6,f7]
  clear A
  conv=>arg 2;whnf
  clear f0 f3 f4 f5 f6 f7 h
  clear his
  obtain ⟨sa,sc,hsv⟩:=own_form HREF.out.own
  subst hsv
  have gs:=hG.w.things
  clear hR hx
  go_wp2_with (go_at_call 26;go_loud (refine (rno2_calls _ HY.out (show Below W.heap.size W _ from bel9)).mono ?_;rintro e w9 ⟨rfl,K9,kz9,by9,z0,z1,z2,z3,zf⟩))
  refine bodyPost_ret (results_cell_row rfl _ _ _ _ _ _ _ rfl (reply_blk by9 _ _ _ _) Tryz.underlying35 rfl kR) rfl ?_
  exact rdo_end (m:=W.heap.size) (HREF.out.below K9) HRR.out HM.out (HO.out.more K9) (M.no 5) oN oN _ _ _ _
 ·rw [show M.doAct G ⟨7,id,n,mask,row,box⟩=({more G with saves:=G.saves++[G.w]},⟨0,G.saves.length,[],[]⟩) by unfold M.doAct;rw [if_neg bO];simp only;rw [if_neg bO,if_neg bO,if_neg bO,if_neg bO,if_neg bO,if_pos trivial,if_neg hn]]
  have hq:((G.saves.length:Int)==3)=false:=by (first|(simp;done)|(simp;omega))
  obtain ⟨is,his⟩:∃t,(M.at_ G.w.things id).isSome=t:=⟨_,rfl⟩
  refine rdo_begin h _ hx.1.2.1 h0 hlt (λf gt W F A=>?_)
  obtain ⟨f0,f3,f4,f5,f6,f7⟩:=F
  simp only [his] at f7
  obtain ⟨x0,x1,x2,x3,x4,x5,x6,x7,x8,x9,x10,x11,x12,x13,x14,x15,x16⟩:=act_cells A.act
  obtain ⟨y0,y1,y2,y3⟩:=four_cells A.rep
  obtain ⟨g0,g1,g2,g3,g4,g5,g6⟩:=game_cells A.ref.blk
  obtain ⟨yf,gf,lx,ly,lg,gp,HREF,HO,HY,HBG,HM,ng1,ng2,ng3,ng4⟩:=rdo_facts A hR
  have HA:=hI A
  have HRR:=hI hR
  simp only [fr406,f0,f3,f4,f5,f6,f7]
  clear A
  conv=>arg 2;whnf
  clear f0 f3 f4 f5 f6 f7 h
  clear his
  obtain ⟨sa,sc,hsv⟩:=own_form HREF.out.own
  subst hsv
  have gs:=hG.w.things
  have hm10:M.size G.w.things<=maxLen:=Nat.le_trans gs.2.2.2.1 (by unfold maxLen;decide)
  clear hR hx
  go_upto_region 38 with fail
  refine wp_called (λW1 hW1=>?_)
  have K1:Below W.heap.size W W1:=by rw [hW1];exact bel9
  clear hW1
  have KK:=hI (λ(U:World) (hb:Below W1.drew.heap.size W1.drew U)=>K1.trans ((((Below.refl _ W1).drew).trans hb).mono K1.size))
  refine DG.wp_named (λA hA=>?_)
  show Code.wp Tryz.prog r38C _ _ _
  rw [r38C_is]
  refine wp_region_any kR ?_
  rw [r38Ops_size]
  show wpAny _ _ _ _ _ _ _ W1.drew
  refine r38_region (g:=g) (b:=b) (N:=G.saves.length) (sc:=sc) (sa:=sa) (next:=G.w.things.next) (fall:=G.w.fall) (wide:=G.w.wide) (high:=G.w.high) (f:=M.at_ G.w.things) (c:=M.size G.w.things) (xs:=rsaveL G.saves hs) (ac:=.int .i64 (G.acts+1)) (W0:=W1.drew) ⟨by rw [hA];rfl,by omega,λU hb=>(HBG.out.below (KK.out U hb) lg).cell 5,λU hb=>⟨(HBG.out.below (KK.out U hb) lg).cell 0,(HBG.out.below (KK.out U hb) lg).cell 1,(HBG.out.below (KK.out U hb) lg).cell 2,(HBG.out.below (KK.out U hb) lg).cell 3,(HBG.out.below (KK.out U hb) lg).cell 4⟩,own_below HREF.out.own (K1.trans ((Below.refl _ W1).drew.mono K1.size)),λU hb=>HBG.out.below (KK.out U hb) lg,λe=>(HREF.out.ov g e).2 rfl,λU hb=>wcopy_calls (HREF.out.map.2.below (KK.out U hb) HREF.out.map.2.lt) hm10 G.w.things.next G.w.fall G.w.wide G.w.high⟩ rA (by rw [hA]) (0,0,(none,0)) (by unfold r38Mem;exact ⟨_,_,Below.refl _ _,(λe=>by cases e),(λe=>by cases e),by rw [if_neg sS],by rw [if_neg sS]⟩) ?_
  intro gg ll W4 hll hmm
  unfold r38Mem at hmm
  obtain ⟨U,V,hbel,h9,_,h11,hW⟩:=hmm
  obtain ⟨hm9,hs9⟩:=h9 (hll 9 dC)
  rw [if_pos (hll 11 dC)] at h11
  rw [if_pos (hll 14 dC)] at hW
  obtain ⟨hg11,ho11,ha11⟩:=h11
  have KU:=KK.out U hbel
  refine next_frame rA [0,3,4,5] (by rfl) (λf9 k9=>?_)
  have e0:f9 0=.pointer (some ⟨g,0,none⟩):=(k9 0 dC).trans rA
  have e3:f9 3=.pointer (some ⟨w.heap.size,0,none⟩):=(k9 3 dC).trans rA
  have e4:f9 4=.pointer (some ⟨w.heap.size+1,0,none⟩):=(k9 4 dC).trans rA
  have e5:f9 5=.func (.func 26) #[] #[]:=(k9 5 dC).trans rA
  clear k9 hA A
  simp only [fr406,e0,e3,e4,e5]
  clear e0 e3 e4 e5
  have HR9:Hid (RefAt W4 (λy=>R y\/W.heap.size<=y) g {more G with saves:=G.saves++[G.w]} b (.slice gg.2.2.1 (G.saves.length+1) gg.2.2.2) (hs++[gg.1])):=hI (by rw [hW];exact RefAt.saved (G:=more G) HREF.out lR KU hg11 ho11 ha11 hm9 (Nat.le_trans K1.size hs9))
  have HO9:Hid (Only R w W4):=hI (by rw [hW];exact ((HO.out.more KU).grownR hg11 (λk e=>.inl (HA.out.ref.ov k e).1)).setCell (p:=⟨g,5,none⟩) (.inl HA.out.ref.inR) _)
  have HR4:Hid (Blk W4 (w.heap.size+1) 35 #[.int .i64 0,.int .i64 0,.slice none 0 0,.slice none 0 0]):=hI (by rw [hW];exact (Blk.grown (HY.out.below KU ly) hg11 (λe=>(by have:=HRR.out _ (HA.out.ref.ov _ e).1;omega))).far (p:=⟨g,5,none⟩) ng4 _)
  clear hW hg11 ho11 ha11 hm9 hs9
  obtain ⟨y0,y1,y2,y3⟩:=four_cells HR4.out
  have yf:=λi=>HR4.out.free i
  have ly4:=HR4.out.lt
  have u5:=HR9.out.blk.cell 5
  simp at u5
  have lg4:=HR9.out.blk.lt
  have hw1:IntKind.i64.wrap ((G.saves.length:Int)+1-1)=(G.saves.length:Int):=by rw [IntKind.wrap_i64];omega
  go_wp2_with fail
  refine bodyPost_ret (results_cell_row rfl _ _ _ _ _ _ _ rfl (reply_blk HR4.out _ _ _ _) Tryz.underlying35 rfl kR) rfl ?_
  exact rdo_end (m:=W.heap.size) HR9.out HRR.out HM.out HO9.out ⟨0,G.saves.length,[],[]⟩ oN oN _ _ _ _
end Go.Proofs.YtemkbjaojinaoaaGreat
