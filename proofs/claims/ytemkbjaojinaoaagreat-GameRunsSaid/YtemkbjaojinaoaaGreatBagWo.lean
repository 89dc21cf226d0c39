/- Several small texts in one. No condition of its own: each part says its own. -/
import Derived.Test.YtemkbjaojinaoaaGreatShort
import Derived.Test.YtemkbjaojinaoaaGreatBagX9
import Derived.Test.YtemkbjaojinaoaaGreatRowCells
import Derived.Test.YtemkbjaojinaoaaGreatBagP
import Derived.Test.YtemkbjaojinaoaaGreatKit
import Derived.Laws.Rows
import Derived.Test.YtemkbjaojinaoaaGreatBagSg
import Derived.Test.YtemkbjaojinaoaaGreatBagO
import Derived.Test.YtemkbjaojinaoaaGreatBagW
set_option linter.unusedVariables false
set_option linter.unusedSimpArgs false
set_option maxRecDepth 100000
set_option maxHeartbeats 4000000
namespace Go.Proofs.YtemkbjaojinaoaaGreat
open Go.RowKit
theorem StoreAt.form {w:World} {lo:Nat} {v:Value} {s:M.Store} (h:StoreAt w lo v s):∃a c,v=.agg #[.slice a s.tables.length c,.int .i64 s.next]:=by
 obtain ⟨vt,rfl,hs,hT⟩:=h
 obtain ⟨a,cap,rfl⟩:=hT.val
 exact ⟨a,cap,rfl⟩
theorem got_puts {w wc w' W:World} {lo:Nat} {v v':Value} {s x:M.Store} (hold:StoreAt w lo v s) (hw:Below w.heap.size w wc)
  (hc:Below wc.heap.size wc w') (hx:NewOr wc w' v v' s x) (hz:w'.heap.size<=W.heap.size) (hW:∀g,g<w.heap.size\/wc.heap.size<=g->W.heap[g]?=w'.heap[g]?):StoreAt W 0 v' x/\NewOr w W v v' s x:=by
 have k1:=hw.size
 rcases hx with ⟨rfl,rfl⟩|hx
 ·refine ⟨(hold.same λg h1 h2=>?_).mono (Nat.zero_le _),.inl ⟨rfl,rfl⟩⟩
  rw [hW g bO,hc.block g bO,hw.block g h2]
 ·have k:=hx.same (W:=W) λg h1 h2=>hW g bO
  exact ⟨k.mono (Nat.zero_le _),.inr (k.mono k1)⟩
theorem worldBack_calls {w:World} {lo:Nat} {v:Value} {s:M.Store} (h:StoreAt w lo v s) (hin:StoreIn s) (id m:Int) (r:M.Row):
  Calls Tryz.prog 81 #[v,.int .i64 id,.int .i64 m,rowV r] w λe w'=>∃v',e=.returned v'/\(StoreAt w' 0 v' (M.backTo s id m r)/\NewOr w w' v v' s (M.backTo s id m r))/\Below w.heap.size w w':=by
 have HG:=hI (λW (hb:Below w.heap.size w W)=>set_calls (h.below hb) hin id r)
 have HS:=hI h
 obtain ⟨a,cap,rfl⟩:=h.form
 clear h hin
 by_cases hm:M.moves m=true
 ·have q:(bits .and .i64 m 11==11)=true:=hm
  have q2:(bits .and .i64 m 11 !=11)=false:=by simpa using q
  have hf:M.backTo s id m r=(M.set s id r).1:=by unfold M.backTo;rw [if_pos hm]
  rw [hf]
  obtain ⟨x,code,hx⟩:∃x code,M.set s id r=(x,code):=⟨_,_,rfl⟩
  rw [hx] at HG⊢
  simp only at HG⊢
  clear hf hm q hx
  go_enter Tryz.func81,Tryz.ntmps81
  go_wp2_with (go_at_call 48;refine (HG.out _ bel9).mono ?_;rintro e w1 ⟨v1,rfl,⟨hs1,hn1⟩,hb1⟩;obtain ⟨a1,c1,rfl⟩:=hs1.form;have HN1:Hid (NewOr _ w1 _ _ s x):=hI hn1;have HB1:=hI hb1;clear hs1 hn1;have K1:Below w.heap.size w w1:=(show Below w.heap.size w _ from bel9).trans (hb1.mono sid9);have hz1:=hb1.size;(try simp at hz1);have b4:Blk w1 w.heap.size 51 #[.slice a s.tables.length cap,.int .i64 s.next]:=Blk.below (Blk.alloc (Blk.alloc (Blk.new_at rfl) _) _) hb1 sid9;have b8:Blk w1 (w.heap.size+1+1) 51 #[.slice none 0 0,.int .i64 0]:=Blk.below (Blk.new_at sid9) hb1 sid9;have y0:=b4.cell 0;have y1:=b4.cell 1;have yf:=(λi=>b4.free i);have z0:=b8.cell 0;have z1:=b8.cell 1;have zf:=(λi=>b8.free i);simp at y0 y1 z0 z1;have ly:=b4.lt;have lz:=b8.lt)
  refine bodyPost_ret (v:=.agg #[.slice a1 x.tables.length c1,.int .i64 x.next]) ?_ rfl ⟨_,rfl,?_,?_⟩
  ·simp only [results,Tryz.results81]
   go_simp
  ·refine got_puts HS.out (show Below w.heap.size w _ from bel9) HB1.out HN1.out sS (λg hg=>?_)
   simp only [World.size_alloc] at hg
   repeat first|rfl|rw [bS _ _ _ _ sO]
  ·exact bel9
 ·have q:(bits .and .i64 m 11==11)=false:=by simpa [M.moves] using hm
  have q2:(bits .and .i64 m 11 !=11)=true:=by simpa using q
  have hf:M.backTo s id m r=s:=by unfold M.backTo;rw [if_neg hm]
  rw [hf]
  clear hf hm q
  go_enter Tryz.func81,Tryz.ntmps81
  go_wp2
  refine bodyPost_ret (v:=.agg #[.slice a s.tables.length cap,.int .i64 s.next]) ?_ rfl ⟨_,rfl,?_,?_⟩
  ·simp only [results,Tryz.results81]
   go_simp
  ·exact ⟨(HS.out.mono (Nat.zero_le _)).below bel9,.inl ⟨rfl,rfl⟩⟩
  ·exact bel9
theorem infoBoxW:(Tryz.prog.info? 40).map (λi=>(i.zero,i.size,i.bytes))=some (some (.agg #[.int .i64 0,.int .i64 0,.int .i64 0,.int .i64 0,.int .i64 0]),5,40):=by kernel_rfl
theorem own_lower {w:World} {base lo:Nat} {e:TypeId} {k n:Nat} {v:Value} {xs:List Value} (h:w.ownsRow base e k v n xs) (hl:lo<=base):w.ownsRow lo e k v n xs:=
 ⟨h.1,h.2.imp id λ⟨g,cap,cur,e,hg,r⟩=>⟨g,cap,cur,e,Nat.le_trans hl hg,r⟩⟩
theorem box_sides {s:M.Store} (g:M.GoodS s) {id:Int} (hid:id∈M.query s 5):
  (-1048576<=(M.get s id).2.1.X/\(M.get s id).2.1.X<=1048576)/\(-1048576<=(M.get s id).2.1.Y/\(M.get s id).2.1.Y<=1048576)/\(1<=(M.get s id).2.1.W/\(M.get s id).2.1.W<=4096)/\(1<=(M.get s id).2.1.H/\(M.get s id).2.1.H<=4096):=by
 have hb:M.boxOf id (M.get s id).2.1∈M.boxes s:=by
  unfold M.boxes
  exact List.mem_map.2 ⟨id,hid,rfl⟩
 obtain ⟨n,r,e,hm⟩:=(M.mem_query g).1 hid
 have hf:=M.at_fits g e
 have h4:=M.has5_bits (by have:=hf.lo;omega) hf.hi hm
 have hg:M.get s id=(n,r,true):=by rw [M.get_at g];rw [show M.at_ s id=some (n,r) from e];rfl
 rw [hg]
 have k4:=hf.q4 h4.2
 have k1:=hf.q1 h4.1
 simp only
 omega
theorem worldBoxes_calls {w:World} {lo:Nat} {v:Value} {s:M.Store} (h:StoreAt w lo v s) (hg:M.GoodS s):
  Calls Tryz.prog 25 #[v] w λe w'=>∃v',e=.returned v'/\w'.ownsRow w.heap.size 40 5 v' (M.boxes s).length ((M.boxes s).flatMap boxL)/\Below w.heap.size w w':=by
 have HQ:=hI (λW (hb:Below w.heap.size w W)=>query_calls (h.below hb) hg 5)
 have HG:=hI (λ(id:Int) W (hb:Below w.heap.size w W)=>get_calls (h.below hb) id)
 obtain ⟨vt,rfl,hs,hT⟩:=h
 obtain ⟨a,cap,rfl⟩:=hT.val
 obtain ⟨qs,hqs⟩:∃qs,qs=M.query s 5:=⟨_,rfl⟩
 have HSD:Hid (∀id∈qs,(-1048576<=(M.get s id).2.1.X/\(M.get s id).2.1.X<=1048576)/\(-1048576<=(M.get s id).2.1.Y/\(M.get s id).2.1.Y<=1048576)/\(1<=(M.get s id).2.1.W/\(M.get s id).2.1.W<=4096)/\(1<=(M.get s id).2.1.H/\(M.get s id).2.1.H<=4096)):=hI (λid hid=>box_sides hg (hqs▸hid))
 have hbx:M.boxes s=qs.map λid=>M.boxOf id (M.get s id).2.1:=by rw [hqs];rfl
 rw [hbx]
 rw [←hqs] at HQ
 have hl10:qs.length<=10:=by
  rw [hqs]
  unfold M.query
  rw [List.length_mergeSort]
  exact Nat.le_trans (M.selT_le 5 s.tables) hg.2.2.2.1
 obtain ⟨i0,hi,hz0,hz1,hz2⟩:=info_parts infoBoxW
 clear hT hg hqs hbx
 go_enter Tryz.func25,Tryz.ntmps25
 go_wp2_with (go_at_call 53;refine (HQ.out _ bel9).mono ?_;rintro e w1 ⟨v1,rfl,ho1,hb1⟩;obtain ⟨a1,c1,rfl⟩:=own_form ho1;have K1:Below w.heap.size w w1:=(show Below w.heap.size w _ from bel9).trans (hb1.mono sid9);have hz1':=hb1.size;(try simp at hz1');have b1:Blk w1 w.heap.size 51 #[.slice a s.tables.length cap,.int .i64 s.next]:=Blk.below (Blk.new_at sid9) hb1 sid9)
 have HK1:=hI K1
 have HO1:=hI ho1
 have HB1:=hI b1
 clear K1 hb1 ho1 b1
 go_loopg [3,12] qs.length (λg o i wr=>∃n:Nat,n<=qs.length/\i=.int .i64 n/\g=qs.length-n/\wr.ownsRow w1.heap.size 40 5 o n (((qs.take n).map λid=>M.boxOf id (M.get s id).2.1).flatMap boxL)/\Below w1.heap.size w1 wr)
 case atStart=>exact ⟨0,Nat.zero_le _,rfl,rfl,World.ownsRow_nil _ _ _ _,Below.refl _ _⟩
 case round=>
  obtain ⟨wo,hwo⟩:∃wo,wo=wr:=⟨_,rfl⟩
  subst hwo
  obtain ⟨n,hn,rfl,hgk,ho,hb⟩:=hrel
  have HB:=hI hb
  have HK:=hI hgk
  have HO:=hI ho
  have hz:=hb.size
  have bs:=HB1.out.below hb HB1.out.lt
  have s0:=bs.cell 0
  have s1:=bs.cell 1
  simp at s0 s1
  have ls:=bs.lt
  clear hgk ho
  rcases Nat.lt_or_ge n qs.length with hlt|hge
  ·obtain ⟨id,hid⟩:∃id,qs[n]?=some id:=⟨_,List.getElem?_eq_getElem hlt⟩
   obtain ⟨g1,cq,e1,_,hg1⟩:=own_val HO1.out bO
   simp only [Value.slice.injEq,true_and] at e1
   obtain ⟨rfl,rfl⟩:=e1
   have hcell:wo.cell? ⟨g1,n,none⟩=some (.int .i64 id):=by
    rw [hb.cell (p:=⟨g1,n,none⟩) hg1,HO1.out.cellAt n bO,List.getElem?_map,hid];rfl
   have KO:Below w.heap.size w wo:=HK1.out.trans (hb.mono HK1.out.size)
   have HGI:=hI (λW (hb:Below wo.heap.size wo W)=>HG.out id W (KO.trans (hb.mono KO.size)))
   obtain ⟨m,r,b,hget⟩:∃m r b,M.get s id=(m,r,b):=⟨_,_,_,rfl⟩
   have hsd:=HSD.out id (List.mem_of_getElem? hid)
   rw [hget] at HGI hsd
   simp only at HGI hsd
   obtain ⟨d1,d2,d3,d4⟩:=hsd
   have v1:IntKind.i64.wrap (r.X-r.W)=r.X-r.W:=by rw [IntKind.wrap_i64];omega
   have v2:IntKind.i64.wrap (r.Y-r.H)=r.Y-r.H:=by rw [IntKind.wrap_i64];omega
   have v3:IntKind.i64.wrap (r.X+r.W)=r.X+r.W:=by rw [IntKind.wrap_i64];omega
   have v4:IntKind.i64.wrap (r.Y+r.H)=r.Y+r.H:=by rw [IntKind.wrap_i64];omega
   have HST:Hid ((qs.take (n+1)).map (λid=>M.boxOf id (M.get s id).2.1)=(qs.take n).map (λid=>M.boxOf id (M.get s id).2.1)++[M.boxOf id r]):=hI (by rw [List.take_add_one,hid];simp [hget])
   clear hb hid hget KO
   go_wp2_with (first|(go_at_call 17;refine (HGI.out _ bel9).mono ?_;rintro e w6 ⟨rfl,hb6⟩;have K6:Below wo.heap.size wo w6:=(show Below wo.heap.size wo _ from bel9).trans (hb6.mono sid9);have hz6:=hb6.size;(try simp at hz6))|(at_builtin;refine wpList_append_own_at _ rfl (.tmp 23) (.tmp 46) _ rfl w1.heap.size 40 i0 _ 5 40 Tryz.underlying80 hi hz0 hz1 hz2 rfl bO _ n _ rfl (own_below HO.out (show Below wo.heap.size wo _ from bel9)) ⟨w6.heap.size+1,0,none⟩ 1 1 (boxL (M.boxOf id r)) rfl rfl (by intro j u hu;rw [Addr.add_lit];match j,hu with|0,hu=>(simp [boxL,M.boxOf] at hu;subst hu;simp)|1,hu=>(simp [boxL,M.boxOf] at hu;subst hu;simp)|2,hu=>(simp [boxL,M.boxOf] at hu;subst hu;simp)|3,hu=>(simp [boxL,M.boxOf] at hu;subst hu;simp)|4,hu=>(simp [boxL,M.boxOf] at hu;subst hu;simp)|j+5,hu=>simp [boxL] at hu) (by intro u hu;exact boxes_one [M.boxOf id r] u (by simpa using hu)) (by unfold maxLen;omega) bO sO ?_;intro v9 w9 hown9 hg9 _ hat9;have HO9:=hI hown9;have HG9:=hI hg9;clear hown9 hg9 hat9))
   go_roundg (qs.length-(n+1))
   case measure=>rw [HK.out];omega
   case rel=>
    refine ⟨n+1,by omega,by go_num,rfl,?_,?_⟩
    ·rw [HST.out,List.flatMap_append]
     have:=HO9.out
     simpa using this
    ·exact (HB.out.trans ((show Below wo.heap.size wo _ from bel9).mono hz)).grown HG9.out sO (λk hk=>(HO.out.lt k hk).1)
  ·obtain rfl:n=qs.length:=by omega
   rw [List.take_length] at HO
   go_wp2_with fail
   go_ret
   refine ⟨_,rfl,?_,HK1.out.trans (HB.out.mono HK1.out.size)⟩
   rw [List.length_map]
   exact own_lower HO.out (by have:=HK1.out.size;omega)
theorem worldRow_calls {w:World} {lo:Nat} {v:Value} {s:M.Store} (h:StoreAt w lo v s) (id:Int):
  Calls Tryz.prog 79 #[v,.int .i64 id] w λe w'=>e=.returned (.tuple #[.int .i64 (M.get s id).1,rowV (M.freeRow (M.get s id).1 (M.get s id).2.1)])/\Below w.heap.size w w':=by
 have HG:=hI (λW (hb:Below w.heap.size w W)=>get_calls (h.below hb) id)
 obtain ⟨m,r,b,hg⟩:∃m r b,M.get s id=(m,r,b):=⟨_,_,_,rfl⟩
 rw [hg] at HG⊢
 simp only at HG⊢
 obtain ⟨vt,rfl,hs,hT⟩:=h
 obtain ⟨a,cap,rfl⟩:=hT.val
 clear hT hg
 by_cases hm:M.moves m=true
 ·have q:(bits .and .i64 m 11==11)=true:=hm
  have q2:(bits .and .i64 m 11 !=11)=false:=by simpa using q
  have hf:M.freeRow m r=r:=by unfold M.freeRow;rw [if_pos hm]
  rw [hf]
  clear hf hm q
  go_enter Tryz.func79,Tryz.ntmps79
  go_wp2_with (go_at_call 17;refine (HG.out _ bel9).mono ?_;rintro e w1 ⟨rfl,hb1⟩;have K1:Below w.heap.size w w1:=(show Below w.heap.size w _ from bel9).trans (hb1.mono sid9);have hz1:=hb1.size;(try simp at hz1);have b5:Blk w1 (w.heap.size+1) 38 (rowC ⟨0,0,0,0,0,0,0,0⟩):=Blk.below (Blk.new_at sS) hb1 sS;obtain ⟨y0,y1,y2,y3,y4,y5,y6,y7⟩:=row_at b5;have yf:=(λi=>b5.free i);have ly:=b5.lt)
  go_region
  all_goals
   go_wp2_with fail
   refine bodyPost_ret (v:=.tuple #[.int .i64 m,rowV r]) ?_ rfl ⟨rfl,?_⟩
   ·simp only [results,Tryz.results79]
    go_simp
   ·exact bel9
 ·have q:(bits .and .i64 m 11==11)=false:=by simpa [M.moves] using hm
  have q2:(bits .and .i64 m 11 !=11)=true:=by simpa using q
  have hf:M.freeRow m r={r with PX:=0,PY:=0,M:=0}:=by unfold M.freeRow;rw [if_neg hm]
  rw [hf]
  clear hf hm q
  go_enter Tryz.func79,Tryz.ntmps79
  go_wp2_with (go_at_call 17;refine (HG.out _ bel9).mono ?_;rintro e w1 ⟨rfl,hb1⟩;have K1:Below w.heap.size w w1:=(show Below w.heap.size w _ from bel9).trans (hb1.mono sid9);have hz1:=hb1.size;(try simp at hz1);have b5:Blk w1 (w.heap.size+1) 38 (rowC ⟨0,0,0,0,0,0,0,0⟩):=Blk.below (Blk.new_at sS) hb1 sS;obtain ⟨y0,y1,y2,y3,y4,y5,y6,y7⟩:=row_at b5;have yf:=(λi=>b5.free i);have ly:=b5.lt)
  go_region
  all_goals
   go_wp2_with fail
   refine bodyPost_ret (v:=.tuple #[.int .i64 m,rowV {r with PX:=0,PY:=0,M:=0}]) ?_ rfl ⟨rfl,?_⟩
   ·simp only [results,Tryz.results79]
    go_simp
   ·exact bel9
abbrev wdV (vt:Value) (d:M.Wd):Value:=.agg #[vt,.int .i64 d.things.next,.int .i64 d.fall,.int .i64 d.wide,.int .i64 d.high]
theorem goodWorld_calls {w:World} {lo:Nat} {vt:Value} {d:M.Wd} (h:StoreAt w lo (.agg #[vt,.int .i64 d.things.next]) d.things) (hin:StoreIn d.things):
  Calls Tryz.prog 15 #[wdV vt d] w λe w'=>e=.returned (.bool (M.goodW d))/\Below w.heap.size w w':=by
 have HG:=hI (λW (hb:Below w.heap.size w W)=>storeGood_calls (h.below hb) hin)
 obtain ⟨s,fall,wide,high⟩:=d
 obtain ⟨g,hg⟩:∃g,M.good s=g:=⟨_,rfl⟩
 have hgw:M.goodW ⟨s,fall,wide,high⟩=(g && decide ((-64<=fall/\fall<=64)/\(1<=wide/\wide<=1048576)/\(1<=high/\high<=1048576))):=by unfold M.goodW;rw [hg]
 rw [hgw]
 simp only at HG
 rw [hg] at HG
 clear hg hgw h hin
 have cs:g=false\/(g=true/\¬-64<=fall)\/(g=true∧-64<=fall/\¬fall<=64)\/(g=true∧-64<=fall/\fall<=64/\¬1<=wide)\/(g=true∧-64<=fall/\fall<=64/\1<=wide/\¬wide<=1048576)\/(g=true∧-64<=fall/\fall<=64/\1<=wide/\wide<=1048576/\¬1<=high)\/(g=true∧-64<=fall/\fall<=64/\1<=wide/\wide<=1048576/\1<=high):=by
  cases g
  ·exact .inl rfl
  ·simp only [true_and,Bool.true_eq_false,false_or];omega
 rcases cs with rfl|⟨rfl,c1⟩|⟨rfl,c1,c2⟩|⟨rfl,c1,c2,c3⟩|⟨rfl,c1,c2,c3,c4⟩|⟨rfl,c1,c2,c3,c4,c5⟩|⟨rfl,c1,c2,c3,c4,c5⟩
 all_goals
  go_enter Tryz.func15,Tryz.ntmps15
  go_wp2_with (go_at_call 38;refine (HG.out _ bel9).mono ?_;rintro e w1 ⟨rfl,hb1⟩;have K1:Below w.heap.size w w1:=(show Below w.heap.size w _ from bel9).trans (hb1.mono sid9);have hz1:=hb1.size;(try simp at hz1);obtain ⟨hc1,hf1⟩:=bcell hb1)
  all_goals
   go_ret
   refine ⟨?_,?_⟩
   ·first|(simp [*];done)|(simp [*];omega)|(congr 2;simp;omega)
   ·exact bel9
end Go.Proofs.YtemkbjaojinaoaaGreat
