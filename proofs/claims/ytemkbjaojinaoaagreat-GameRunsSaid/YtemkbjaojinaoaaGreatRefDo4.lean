/- The contract of the document's Do for acts that give or take a part. Condition: the game lies in memory and is good. -/
import Derived.Test.YtemkbjaojinaoaaGreatShort
import Derived.Test.YtemkbjaojinaoaaGreatBagN9
import Derived.Test.YtemkbjaojinaoaaGreatBagM3
import Derived.Deep.QuietTactic
import Derived.BigQuiet
set_option linter.unusedVariables false
set_option linter.unusedSimpArgs false
set_option maxRecDepth 100000
set_option maxHeartbeats 8000000
namespace Go.Proofs.YtemkbjaojinaoaaGreat
open Go.RowKit
theorem rdo_give {w:World} {R:Nat->Prop} {g:Nat} {G:M.Game} {b:Nat} {sv:Value} {hs:List Nat} (h:RefAt w R g G b sv hs) (hR:∀y,R y->y<w.heap.size) (hG:M.GoodG G) (kind id n mask:Int) (row:M.Row) (box:M.Box) (hk:kind=3) {p:M.Th} (hp:M.at_ G.w.things id=some p) (h0:0<=G.acts) (hlt:G.acts<150) (hx:ActIn ⟨kind,id,n,mask,row,box⟩):
  Calls Tryz.prog 10 #[.pointer (some ⟨g,0,none⟩),actV ⟨kind,id,n,mask,row,box⟩] w (RefPost R w g (M.doAct G ⟨kind,id,n,mask,row,box⟩).1 (M.doAct G ⟨kind,id,n,mask,row,box⟩).2):=by
 subst hk
 have gs:=hG.w.things
 have hf:=M.at_fits gs hp
 have hth:(M.at_ G.w.things id).isSome=true:=by rw [hp];rfl
 rw [M.doAct_change hlt (show (3:Int)=3\/(3:Int)=4 by omega)]
 obtain ⟨e0,e2⟩|⟨e0,e1,e2⟩|⟨e0,e1,q,hq,h2⟩:=M.change_ref gs 3 bO id n mask row box hx.2.1 hp
 ·rw [e2]
  show Calls _ _ _ _ (RefPost R w g (more G) (M.no 1))
  have m1:(mask==1)=false:=by simp;intro e;exact e0 (by unfold M.Single;omega)
  have m2:(mask==2)=false:=by simp;intro e;exact e0 (by unfold M.Single;omega)
  have m4:(mask==4)=false:=by simp;intro e;exact e0 (by unfold M.Single;omega)
  have m8:(mask==8)=false:=by simp;intro e;exact e0 (by unfold M.Single;omega)
  have m16:(mask==16)=false:=by simp;intro e;exact e0 (by unfold M.Single;omega)
  refine rdo_begin h _ hx.1.2.1 h0 hlt (λf gt W F A=>?_)
  obtain ⟨f0,f3,f4,f5,f6,f7⟩:=F
  simp only [hth] at f7
  obtain ⟨x0,x1,x2,x3,x4,x5,x6,x7,x8,x9,x10,x11,x12,x13,x14,x15,x16⟩:=act_cells A.act
  obtain ⟨y0,y1,y2,y3⟩:=four_cells A.rep
  obtain ⟨g0,g1,g2,g3,g4,g5,g6⟩:=game_cells A.ref.blk
  obtain ⟨yf,gf,lx,ly,lg,gp,HREF,HO,HY,HBG,HM,ng1,ng2,ng3,ng4⟩:=rdo_facts A hR
  have HA:=hI A
  have HRR:=hI hR
  simp only [fr406,f0,f3,f4,f5,f6,f7]
  clear A
  conv=>arg 2;whnf
  clear f0 f3 f4 f5 f6 f7 h
  have ng5:¬gt=g:=(by have:=hR g HA.out.ref.inR;omega)
  have ng6:¬w.heap.size=gt:=bO
  have HTH:Hid (Blk W gt 83 (thC p)):=hI (by have k:=HA.out.th;rw [show M.at_ G.w.things (⟨3,id,n,mask,row,box⟩:M.Act).id=some p from hp] at k;exact k)
  have lt6:=HTH.out.lt
  obtain ⟨sz,hsz⟩:∃k,M.size G.w.things=k:=⟨_,rfl⟩
  have hs10:M.size G.w.things<=10:=gs.2.2.2.1
  rw [hsz] at hs10
  have HMP:Hid (MapA W b (M.at_ G.w.things) sz):=hI (by rw [←hsz];exact HREF.out.map.2)
  have HSM:Hid (sz<maxLen):=hI (by unfold maxLen;omega)
  have HID:Hid (I64 id):=hI hx.1.2.1
  have HCP:=hI (λU (hb:Below W.heap.size W U)=>rdo_copy hb HMP.out (by unfold maxLen;omega) HBG.out HA.out.act)
  have HSZ:=hI hsz
  clear hR hx hs10 hsz
  go_upto_region 54 with (go_at_call 28;go_loud (refine (HCP.out _ (show Below W.heap.size W _ from bel9)).mono ?_;rintro e w7 ⟨b2,rfl,hb2,HM7,K7,kz7,gf7,⟨g0,g1,g2,g3,g4⟩,bg7,x0,x1,x2,x3⟩))
  refine wp_called (λW3 hW3=>?_)
  obtain ⟨nb,HK3,HM3,HB3,HA3,HY3,HT3⟩:=rdo_copied hW3 K7 HBG.out HA.out.act HY.out HTH.out HM7.out hb2 HSZ.out ng2 ng4 ng5
  clear hW3
  obtain ⟨x0,x1,x2,x3,x4,x5,x6,x7,x8,x9,x10,x11,x12,x13,x14,x15,x16⟩:=act_cells HA3.out
  obtain ⟨y0,y1,y2,y3⟩:=four_cells HY3.out
  obtain ⟨t0,t1,t2,t3,t4,t5,t6,t7,t8⟩:=th_cells HT3.out
  obtain ⟨g0,g1,g2,g3,g4,g5,g6⟩:=game_cells HB3.out
  have yf:=λi=>HY3.out.free i
  have gf:=λi=>HB3.out.free i
  have tf:=λi=>HT3.out.free i
  have lx3:=HA3.out.lt
  have ly3:=HY3.out.lt
  have lt3:=HT3.out.lt
  have lg3:=HB3.out.lt
  go_quiet (fail)
  go_wp2_with (go_at_call 26;go_loud (refine (rno2_calls _ HY3.out (show Below W3.heap.size W3 _ from bel9)).mono ?_;rintro e w9 ⟨rfl,K9,kz9,by9,z0,z1,z2,z3,zf⟩))
  refine bodyPost_ret (results_cell_row rfl _ _ _ _ _ _ _ rfl (reply_blk by9 _ _ _ _) Tryz.underlying35 rfl kR) rfl ?_
  exact rdo_end (m:=W.heap.size) ((HREF.out.made2 HRR.out (G':=more G) HK3.out HB3.out rfl hb2 HM3.out).below K9) HRR.out HM.out ((HO.out.own9 HK3.out HA.out.ref.inR).more K9) (M.no 1) oN oN _ _ _ _
 ·rw [e2]
  show Calls _ _ _ _ (RefPost R w g (more G) (M.no 1))
  have hm0:0<=p.1:=by have:=hf.lo;omega
  have HHAS:=hI (λU=>has_calls (m:=p.1) (p:=mask) hm0 hf.hi e0 U)
  rw [e1] at HHAS
  have e1q:=e1
  refine rdo_begin h _ hx.1.2.1 h0 hlt (λf gt W F A=>?_)
  obtain ⟨f0,f3,f4,f5,f6,f7⟩:=F
  simp only [hth] at f7
  obtain ⟨x0,x1,x2,x3,x4,x5,x6,x7,x8,x9,x10,x11,x12,x13,x14,x15,x16⟩:=act_cells A.act
  obtain ⟨y0,y1,y2,y3⟩:=four_cells A.rep
  obtain ⟨g0,g1,g2,g3,g4,g5,g6⟩:=game_cells A.ref.blk
  obtain ⟨yf,gf,lx,ly,lg,gp,HREF,HO,HY,HBG,HM,ng1,ng2,ng3,ng4⟩:=rdo_facts A hR
  have HA:=hI A
  have HRR:=hI hR
  simp only [fr406,f0,f3,f4,f5,f6,f7]
  clear A
  conv=>arg 2;whnf
  clear f0 f3 f4 f5 f6 f7 h
  have ng5:¬gt=g:=(by have:=hR g HA.out.ref.inR;omega)
  have ng6:¬w.heap.size=gt:=bO
  have HTH:Hid (Blk W gt 83 (thC p)):=hI (by have k:=HA.out.th;rw [show M.at_ G.w.things (⟨3,id,n,mask,row,box⟩:M.Act).id=some p from hp] at k;exact k)
  have lt6:=HTH.out.lt
  obtain ⟨sz,hsz⟩:∃k,M.size G.w.things=k:=⟨_,rfl⟩
  have hs10:M.size G.w.things<=10:=gs.2.2.2.1
  rw [hsz] at hs10
  have HMP:Hid (MapA W b (M.at_ G.w.things) sz):=hI (by rw [←hsz];exact HREF.out.map.2)
  have HSM:Hid (sz<maxLen):=hI (by unfold maxLen;omega)
  have HID:Hid (I64 id):=hI hx.1.2.1
  have HCP:=hI (λU (hb:Below W.heap.size W U)=>rdo_copy hb HMP.out (by unfold maxLen;omega) HBG.out HA.out.act)
  have HSZ:=hI hsz
  clear hR hx hs10 hsz
  go_upto_region 53 with (go_at_call 28;go_loud (refine (HCP.out _ (show Below W.heap.size W _ from bel9)).mono ?_;rintro e w7 ⟨b2,rfl,hb2,HM7,K7,kz7,gf7,⟨g0,g1,g2,g3,g4⟩,bg7,x0,x1,x2,x3⟩))
  refine wp_called (λW3 hW3=>?_)
  obtain ⟨nb,HK3,HM3,HB3,HA3,HY3,HT3⟩:=rdo_copied hW3 K7 HBG.out HA.out.act HY.out HTH.out HM7.out hb2 HSZ.out ng2 ng4 ng5
  clear hW3
  obtain ⟨x0,x1,x2,x3,x4,x5,x6,x7,x8,x9,x10,x11,x12,x13,x14,x15,x16⟩:=act_cells HA3.out
  obtain ⟨y0,y1,y2,y3⟩:=four_cells HY3.out
  obtain ⟨t0,t1,t2,t3,t4,t5,t6,t7,t8⟩:=th_cells HT3.out
  obtain ⟨g0,g1,g2,g3,g4,g5,g6⟩:=game_cells HB3.out
  have yf:=λi=>HY3.out.free i
  have gf:=λi=>HB3.out.free i
  have tf:=λi=>HT3.out.free i
  have lx3:=HA3.out.lt
  have ly3:=HY3.out.lt
  have lt3:=HT3.out.lt
  have lg3:=HB3.out.lt
  refine wp_frame9 (λA hA=>?_)
  obtain ⟨tm,df⟩:=A
  simp only [Act.mk.injEq] at hA
  obtain ⟨ht,rfl⟩:=hA
  have hz:tm.size=406:=by rw [ht];rfl
  have k0:tm.getD 0 undef=.pointer (some ⟨g,0,none⟩):=by rw [ht];rfl
  have k3:tm.getD 3 undef=.pointer (some ⟨w.heap.size,0,none⟩):=by rw [ht];rfl
  have k4:tm.getD 4 undef=.pointer (some ⟨w.heap.size+1,0,none⟩):=by rw [ht];rfl
  have k5:tm.getD 5 undef=.func (.func 26) #[] #[]:=by rw [ht];rfl
  have k6:tm.getD 6 undef=.pointer (some ⟨gt,0,none⟩):=by rw [ht];rfl
  clear ht
  rw [fr406_of hz]
  show Code.wp Tryz.prog r53C _ _ _
  refine r53_law (f:=λi=>tm.getD i undef) k3 (HA3.out.cell 3) e0 (λf9 h11 k9=>?_)
  have v0:f9 0=.pointer (some ⟨g,0,none⟩):=(k9 0 dC).trans k0
  have v3:f9 3=.pointer (some ⟨w.heap.size,0,none⟩):=(k9 3 dC).trans k3
  have v4:f9 4=.pointer (some ⟨w.heap.size+1,0,none⟩):=(k9 4 dC).trans k4
  have v5:f9 5=.func (.func 26) #[] #[]:=(k9 5 dC).trans k5
  have v6:f9 6=.pointer (some ⟨gt,0,none⟩):=(k9 6 dC).trans k6
  simp only [fr406,h11,v0,v3,v4,v5,v6]
  clear k9 k0 k3 k4 k5 k6 v0 v3 v4 v5 v6 h11 hz tm
  go_upto_region 54 with fail
  go_quiet ((go_at_call 32;exact Calls.quiet_of_same ((HHAS.out _).mono (λ_ _ h=>⟨h.1,h.2.symm⟩))))
  go_wp2_with (go_at_call 26;go_loud (refine (rno2_calls _ HY3.out (show Below W3.heap.size W3 _ from bel9)).mono ?_;rintro e w9 ⟨rfl,K9,kz9,by9,z0,z1,z2,z3,zf⟩))
  refine bodyPost_ret (results_cell_row rfl _ _ _ _ _ _ _ rfl (reply_blk by9 _ _ _ _) Tryz.underlying35 rfl kR) rfl ?_
  exact rdo_end (m:=W.heap.size) ((HREF.out.made2 HRR.out (G':=more G) HK3.out HB3.out rfl hb2 HM3.out).below K9) HRR.out HM.out ((HO.out.own9 HK3.out HA.out.ref.inR).more K9) (M.no 1) oN oN _ _ _ _
 ·obtain ⟨s2,cd,hsc⟩:∃s c,M.changeG G.w.things ⟨3,id,n,mask,row,box⟩=(s,c):=⟨_,_,rfl⟩
  rw [hsc] at h2⊢
  simp only at h2⊢
  clear hsc
  have hm0:0<=p.1:=by have:=hf.lo;omega
  have HHAS:=hI (λU=>has_calls (m:=p.1) (p:=mask) hm0 hf.hi e0 U)
  rw [e1] at HHAS
  have e1q:=e1
  have hmb:1<=mask/\mask<=16:=by unfold M.Single at e0;omega
  have hp31:=hf.hi
  have hqb:0<=mask/\mask<=31:=⟨by omega,by omega⟩
  rw [if_neg bO] at hq
  have HON:=hI (λU=>onlyOf_calls hqb.1 hqb.2 row U)
  refine rdo_begin h _ hx.1.2.1 h0 hlt (λf gt W F A=>?_)
  obtain ⟨f0,f3,f4,f5,f6,f7⟩:=F
  simp only [hth] at f7
  obtain ⟨x0,x1,x2,x3,x4,x5,x6,x7,x8,x9,x10,x11,x12,x13,x14,x15,x16⟩:=act_cells A.act
  obtain ⟨y0,y1,y2,y3⟩:=four_cells A.rep
  obtain ⟨g0,g1,g2,g3,g4,g5,g6⟩:=game_cells A.ref.blk
  obtain ⟨yf,gf,lx,ly,lg,gp,HREF,HO,HY,HBG,HM,ng1,ng2,ng3,ng4⟩:=rdo_facts A hR
  have HA:=hI A
  have HRR:=hI hR
  simp only [fr406,f0,f3,f4,f5,f6,f7]
  clear A
  conv=>arg 2;whnf
  clear f0 f3 f4 f5 f6 f7 h
  have ng5:¬gt=g:=(by have:=hR g HA.out.ref.inR;omega)
  have ng6:¬w.heap.size=gt:=bO
  have HTH:Hid (Blk W gt 83 (thC p)):=hI (by have k:=HA.out.th;rw [show M.at_ G.w.things (⟨3,id,n,mask,row,box⟩:M.Act).id=some p from hp] at k;exact k)
  have lt6:=HTH.out.lt
  obtain ⟨sz,hsz⟩:∃k,M.size G.w.things=k:=⟨_,rfl⟩
  have hs10:M.size G.w.things<=10:=gs.2.2.2.1
  rw [hsz] at hs10
  have HMP:Hid (MapA W b (M.at_ G.w.things) sz):=hI (by rw [←hsz];exact HREF.out.map.2)
  have HSM:Hid (sz<maxLen):=hI (by unfold maxLen;omega)
  have HID:Hid (I64 id):=hI hx.1.2.1
  have HCP:=hI (λU (hb:Below W.heap.size W U)=>rdo_copy hb HMP.out (by unfold maxLen;omega) HBG.out HA.out.act)
  have HSZ:=hI hsz
  clear hR hx hs10 hsz
  go_upto_region 53 with (go_at_call 28;go_loud (refine (HCP.out _ (show Below W.heap.size W _ from bel9)).mono ?_;rintro e w7 ⟨b2,rfl,hb2,HM7,K7,kz7,gf7,⟨g0,g1,g2,g3,g4⟩,bg7,x0,x1,x2,x3⟩))
  refine wp_called (λW3 hW3=>?_)
  obtain ⟨nb,HK3,HM3,HB3,HA3,HY3,HT3⟩:=rdo_copied hW3 K7 HBG.out HA.out.act HY.out HTH.out HM7.out hb2 HSZ.out ng2 ng4 ng5
  clear hW3
  obtain ⟨x0,x1,x2,x3,x4,x5,x6,x7,x8,x9,x10,x11,x12,x13,x14,x15,x16⟩:=act_cells HA3.out
  obtain ⟨y0,y1,y2,y3⟩:=four_cells HY3.out
  obtain ⟨t0,t1,t2,t3,t4,t5,t6,t7,t8⟩:=th_cells HT3.out
  obtain ⟨g0,g1,g2,g3,g4,g5,g6⟩:=game_cells HB3.out
  have yf:=λi=>HY3.out.free i
  have gf:=λi=>HB3.out.free i
  have tf:=λi=>HT3.out.free i
  have lx3:=HA3.out.lt
  have ly3:=HY3.out.lt
  have lt3:=HT3.out.lt
  have lg3:=HB3.out.lt
  refine wp_frame9 (λA hA=>?_)
  obtain ⟨tm,df⟩:=A
  simp only [Act.mk.injEq] at hA
  obtain ⟨ht,rfl⟩:=hA
  have hz:tm.size=406:=by rw [ht];rfl
  have k0:tm.getD 0 undef=.pointer (some ⟨g,0,none⟩):=by rw [ht];rfl
  have k3:tm.getD 3 undef=.pointer (some ⟨w.heap.size,0,none⟩):=by rw [ht];rfl
  have k4:tm.getD 4 undef=.pointer (some ⟨w.heap.size+1,0,none⟩):=by rw [ht];rfl
  have k5:tm.getD 5 undef=.func (.func 26) #[] #[]:=by rw [ht];rfl
  have k6:tm.getD 6 undef=.pointer (some ⟨gt,0,none⟩):=by rw [ht];rfl
  clear ht
  rw [fr406_of hz]
  show Code.wp Tryz.prog r53C _ _ _
  refine r53_law (f:=λi=>tm.getD i undef) k3 (HA3.out.cell 3) e0 (λf9 h11 k9=>?_)
  have v0:f9 0=.pointer (some ⟨g,0,none⟩):=(k9 0 dC).trans k0
  have v3:f9 3=.pointer (some ⟨w.heap.size,0,none⟩):=(k9 3 dC).trans k3
  have v4:f9 4=.pointer (some ⟨w.heap.size+1,0,none⟩):=(k9 4 dC).trans k4
  have v5:f9 5=.func (.func 26) #[] #[]:=(k9 5 dC).trans k5
  have v6:f9 6=.pointer (some ⟨gt,0,none⟩):=(k9 6 dC).trans k6
  simp only [fr406,h11,v0,v3,v4,v5,v6]
  clear k9 k0 k3 k4 k5 k6 v0 v3 v4 v5 v6 h11 hz tm
  go_upto_region 54 with fail
  go_quiet ((go_at_call 32;exact Calls.quiet_of_same ((HHAS.out _).mono (λ_ _ h=>⟨h.1,h.2.symm⟩))))
  go_upto_region 56 with fail
  refine wp_called (λW5 hW5=>?_)
  have K5b:Below W3.heap.size W3 W5:=by rw [hW5];exact bel9
  have kz5:=K5b.size
  have HB5:=hI (HB3.out.below K5b HB3.out.lt)
  have HA5:=hI (HA3.out.below K5b HA3.out.lt)
  have HY5:=hI (HY3.out.below K5b HY3.out.lt)
  have HT5:=hI (HT3.out.below K5b HT3.out.lt)
  have HM5:=hI (HM3.out.below K5b HM3.out.lt)
  have HK5:=hI (HK3.out.more K5b)
  clear hW5
  obtain ⟨x0,x1,x2,x3,x4,x5,x6,x7,x8,x9,x10,x11,x12,x13,x14,x15,x16⟩:=act_cells HA5.out
  obtain ⟨t0,t1,t2,t3,t4,t5,t6,t7,t8⟩:=th_cells HT5.out
  have lx5:=HA5.out.lt
  have lt5:=HT5.out.lt
  go_upto_block 4 with (go_at_call 33;go_loud (refine (HON.out _).mono ?_;rintro e w7 ⟨rfl,hb7⟩;have K7b:Below W5.heap.size W5 w7:=(show Below W5.heap.size W5 _ from bel9).trans (hb7.mono sid9);have kz7b:=K7b.size;have bn7:Blk w7 W5.heap.size 83 (thC (p.1+mask,p.2)):=Blk.below (Blk.new_at rfl) hb7 sid9;have ax7:=HA5.out.below K7b HA5.out.lt;have x0:=ax7.cell 0;have x1:=ax7.cell 1;have x2:=ax7.cell 2;have x3:=ax7.cell 3;simp at x0 x1 x2 x3;have ln7b:=bn7.lt;have lx7:=ax7.lt))
  refine wp_called (λW6 hW6=>?_)
  have K6b:Below W5.heap.size W5 W6:=by rw [hW6];exact bel9
  have kz6:=K6b.size
  have HN6:Hid (Blk W6 W5.heap.size 83 (thC (p.1+mask,p.2))):=hI (by rw [hW6];exact bn7.alloc _)
  have HQ6:Hid (Blk W6 w7.heap.size 38 (rowC (M.only mask row))):=hI (by rw [hW6];exact Blk.new_at rfl)
  have HB6:=hI (HB5.out.below K6b HB5.out.lt)
  have HA6:=hI (HA5.out.below K6b HA5.out.lt)
  have HY6:=hI (HY5.out.below K6b HY5.out.lt)
  have HT6:=hI (HT5.out.below K6b HT5.out.lt)
  have HM6:=hI (HM5.out.below K6b HM5.out.lt)
  have HK6:=hI (HK5.out.more K6b)
  clear hW6 bn7
  obtain ⟨x0,x1,x2,x3,_⟩:=act_cells HA6.out
  have lx6:=HA6.out.lt
  have nq:¬w7.heap.size=W5.heap.size:=bO
  have nn:W5.heap.size<W6.heap.size:=HN6.out.lt
  refine wp_frame9 (λA hA=>?_)
  obtain ⟨tm,df⟩:=A
  simp only [Act.mk.injEq] at hA
  obtain ⟨ht,rfl⟩:=hA
  have hz:tm.size=406:=by rw [ht];rfl
  have k0:tm.getD 0 undef=.pointer (some ⟨g,0,none⟩):=by rw [ht];rfl
  have k3:tm.getD 3 undef=.pointer (some ⟨w.heap.size,0,none⟩):=by rw [ht];rfl
  have k4:tm.getD 4 undef=.pointer (some ⟨w.heap.size+1,0,none⟩):=by rw [ht];rfl
  have k5:tm.getD 5 undef=.func (.func 26) #[] #[]:=by rw [ht];rfl
  have k12:tm.getD 12 undef=.pointer (some ⟨W5.heap.size,0,none⟩):=by rw [ht];rfl
  have k13:tm.getD 13 undef=.pointer (some ⟨w7.heap.size,0,none⟩):=by rw [ht];rfl
  have k313:tm.getD 313 undef=.int .i64 mask:=by rw [ht];rfl
  clear ht
  rw [fr406_of hz]
  show Code.wp Tryz.prog giveC _ _ _
  refine give_law (f:=λi=>tm.getD i undef) k12 k13 e0 k313 HN6.out HQ6.out nq (λf9 W7 k9 hbc hfc=>?_)
  have v0:f9 0=.pointer (some ⟨g,0,none⟩):=(k9 0 dC).trans k0
  have v3:f9 3=.pointer (some ⟨w.heap.size,0,none⟩):=(k9 3 dC).trans k3
  have v4:f9 4=.pointer (some ⟨w.heap.size+1,0,none⟩):=(k9 4 dC).trans k4
  have v5:f9 5=.func (.func 26) #[] #[]:=(k9 5 dC).trans k5
  have v12:f9 12=.pointer (some ⟨W5.heap.size,0,none⟩):=(k9 12 dC).trans k12
  simp only [fr406,v0,v3,v4,v5,v12]
  clear k9 k0 k3 k4 k5 k12 k13 k313 v0 v3 v4 v5 v12 hz tm
  have HN7:=hI hbc
  have K57:Below W5.heap.size W5 W7:=K6b.trans (hfc.below lR)
  clear hbc hfc
  go_upto_region 70 with fail
  have kz7c:=K57.size
  have hW7:True:=trivial
  have HB7:=hI (HB5.out.below K57 HB5.out.lt)
  have HA7:=hI (HA5.out.below K57 HA5.out.lt)
  have HY7:=hI (HY5.out.below K57 HY5.out.lt)
  have HT7:=hI (HT5.out.below K57 HT5.out.lt)
  have HM7:=hI (HM5.out.below K57 HM5.out.lt)
  have HK7:=hI (HK5.out.more K57)
  clear hW7
  obtain ⟨u0,u1,u2,u3,u4,u5,u6,u7,u8⟩:=th_cells HN7.out
  have uf:=λi=>HN7.out.free i
  have ln7:=HN7.out.lt
  subst hq
  obtain ⟨h3,h4⟩|⟨h3,h4,h5,h6,h7⟩:=h2
  ·simp only [Prod.mk.injEq] at h4
   obtain ⟨rfl,rfl⟩:=h4
   simp only at h3
   go_wp2_with (first|(go_at_call 27;go_loud (refine (isRow_calls _ _ _).mono ?_;rintro e w8 ⟨rfl,hb8⟩;rw [h3];have K8:Below W7.heap.size W7 w8:=(show Below W7.heap.size W7 _ from bel9).trans (hb8.mono sid9);have kz8:=K8.size))|(go_at_call 26;go_loud (refine (rno2_calls _ HY7.out (show Below W7.heap.size W7 _ from bel9)).mono ?_;rintro e w9 ⟨rfl,K9,kz9,by9,z0,z1,z2,z3,zf⟩)))
   refine bodyPost_ret (results_cell_row rfl _ _ _ _ _ _ _ rfl (reply_blk by9 _ _ _ _) Tryz.underlying35 rfl kR) rfl ?_
   exact rdo_end (m:=W.heap.size) ((HREF.out.made2 HRR.out (G':=M.withThings (more G) G.w.things) HK7.out (blk_eq HB7.out (by rfl)) rfl hb2 HM7.out).below K9) HRR.out HM.out ((HO.out.own9 HK7.out HA.out.ref.inR).more K9) (M.no 2) oN oN _ _ _ _
  ·simp only at h3 h4
   subst h4
   have hsz2:=M.size_as gs h5 hth h7
   go_upto_region 72 with (go_at_call 27;go_loud (refine (isRow_calls _ _ _).mono ?_;rintro e w8 ⟨rfl,hb8⟩;rw [h3];have K8:Below W7.heap.size W7 w8:=(show Below W7.heap.size W7 _ from bel9).trans (hb8.mono sid9);have kz8:=K8.size))
   refine wp_called (λW9 hW9=>?_)
   have K9b:Below W7.heap.size W7 W9:=by rw [hW9];exact bel9
   have kz9:=K9b.size
   have HB9:=hI (HB7.out.below K9b HB7.out.lt)
   have HA9:=hI (HA7.out.below K9b HA7.out.lt)
   have HY9:=hI (HY7.out.below K9b HY7.out.lt)
   have HT9:=hI (HT7.out.below K9b HT7.out.lt)
   have HM9:=hI (HM7.out.below K9b HM7.out.lt)
   have HK9:=hI (HK7.out.more K9b)
   have HN9:=hI (HN7.out.below K9b ln7)
   clear hW9
   obtain ⟨w4,hrun,hm4,ht4⟩:=MapAt.put HM9.out.drew Tryz.underlying3 Tryz.underlying44 (by rw [HSZ.out];exact HSM.out) (id:=id) HID.out (p.1+mask,M.giveRow mask p.2 row)
   rw [hth] at hm4
   simp only [if_true] at hm4
   have h7q:M.at_ s2=M.upd (M.at_ G.w.things) id (p.1+mask,M.giveRow mask p.2 row):=h7
   rw [←hsz2,←h7q] at hm4
   have HM4:=hI hm4
   have HT4:=hI ht4
   clear hm4 ht4
   refine DG.wp_named (λA hA=>?_)
   show Code.wp Tryz.prog r72C _ _ _
   rw [r72C_is]
   refine wp_region_any kR ?_
   rw [r72Ops_size]
   show wpAny _ _ _ _ _ _ _ W9.drew
   refine r72_region (g:=g) (p3:=w.heap.size) (p12:=W5.heap.size) (b:=b2) (id:=id) (t:=(p.1+mask,M.giveRow mask p.2 row)) (w4:=w4) (W0:=W9.drew) ⟨by rw [hA];rfl,by rw [hA];rfl,by rw [hA];rfl,HB9.out.drew.cell 0,HA9.out.drew.cell 1,HN9.out.drew.cell 0,HN9.out.drew.cell 1,HN9.out.drew.cell 2,HN9.out.drew.cell 3,HN9.out.drew.cell 4,HN9.out.drew.cell 5,HN9.out.drew.cell 6,HN9.out.drew.cell 7,HN9.out.drew.cell 8,hrun⟩ rA (by rw [hA]) () (by unfold r72Mem;rw [if_neg sS]) ?_
   intro gg ll W4 hll hmm
   unfold r72Mem at hmm
   rw [if_pos (hll 8 dC)] at hmm
   subst hmm
   refine next_frame rA [0,3,4,5] (by rfl) (λf9 k9=>?_)
   have e0:f9 0=.pointer (some ⟨g,0,none⟩):=(k9 0 dC).trans rA
   have e3:f9 3=.pointer (some ⟨w.heap.size,0,none⟩):=(k9 3 dC).trans rA
   have e4:f9 4=.pointer (some ⟨w.heap.size+1,0,none⟩):=(k9 4 dC).trans rA
   have e5:f9 5=.func (.func 26) #[] #[]:=(k9 5 dC).trans rA
   clear k9 hA A
   simp only [fr406,e0,e3,e4,e5]
   clear e0 e3 e4 e5
   have bt:=But1.turned (But1.refl b2 W9.drew) HT4.out
   have nb2:g≠b2:=λe=>nb e.symm
   have HB4:=hI (bt.blk HB9.out.drew nb2)
   have HR4:=hI (bt.blk HY9.out.drew (ne_new ly hb2).symm)
   have HK4:Hid (Only (Own9 g w) W W4):=hI (HK9.out.drew.but1 bt (.inr bO))
   obtain ⟨y0,y1,y2,y3⟩:=four_cells HR4.out
   have yf:=λi=>HR4.out.free i
   have ly4:=HR4.out.lt
   clear bt
   go_wp2_with (go_at_call 26;go_loud (refine (rno2_calls _ HR4.out (show Below W4.heap.size W4 _ from bel9)).mono ?_;rintro e w9 ⟨rfl,K9,kz9,by9,z0,z1,z2,z3,zf⟩))
   refine bodyPost_ret (results_cell_row rfl _ _ _ _ _ _ _ rfl (reply_blk by9 _ _ _ _) Tryz.underlying35 rfl kR) rfl ?_
   exact rdo_end (m:=W.heap.size) ((HREF.out.made2 HRR.out (G':=M.withThings (more G) s2) HK4.out (blk_eq HB4.out (by simp [M.withThings,h6])) rfl hb2 HM4.out).below K9) HRR.out HM.out ((HO.out.own9 HK4.out HA.out.ref.inR).more K9) (M.no 0) oN oN _ _ _ _
end Go.Proofs.YtemkbjaojinaoaaGreat
