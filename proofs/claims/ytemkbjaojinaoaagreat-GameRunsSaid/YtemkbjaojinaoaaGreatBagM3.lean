/- Several small texts in one. No condition of its own: each part says its own. -/
import Derived.Test.YtemkbjaojinaoaaGreatShort
import Derived.Test.YtemkbjaojinaoaaGreatBagP
import Derived.Test.YtemkbjaojinaoaaGreatRowCells
import Derived.Test.YtemkbjaojinaoaaGreatBagW
import Derived.Lib.QuietBelow
import Derived.Deep.DeepCutAuto
import Derived.BigQuiet
import Derived.Deep.RegionHeld3
import Derived.Deep.QuietTactic
import Derived.Test.YtemkbjaojinaoaaGreatBagM1
import Derived.Deep.LoopGhost
import Derived.Test.YtemkbjaojinaoaaGreatBagO
import Derived.Test.YtemkbjaojinaoaaGreatBagM2
set_option linter.unusedVariables false
set_option linter.unusedSimpArgs false
set_option maxRecDepth 100000
set_option maxHeartbeats 8000000
namespace Go.Proofs.YtemkbjaojinaoaaGreat
open Go.RowKit
def M.inB (n lo hi:Int):Bool:=decide (lo<=n/\n<=hi)
theorem M.has_tab:∀m:Fin 32,∀p:Fin 5,decide (((m.val:Int).tdiv (2 ^ p.val:Int)).tmod 2=1)=M.bit m.val (2 ^ p.val:Int):=by decide
theorem M.has_bit {m p:Int} (h0:0<=m) (h1:m<=31) (hp:p=1\/p=2\/p=4\/p=8\/p=16):decide ((m.tdiv p).tmod 2=1)=M.bit m p:=by
 obtain ⟨f,rfl⟩:=M.fin_of h0 h1
 rcases hp with rfl|rfl|rfl|rfl|rfl
 ·exact M.has_tab f 0
 ·exact M.has_tab f 1
 ·exact M.has_tab f 2
 ·exact M.has_tab f 3
 ·exact M.has_tab f 4
theorem has_calls {m p:Int} (h0:0<=m) (h1:m<=31) (hp:p=1\/p=2\/p=4\/p=8\/p=16) (w:World):Calls Tryz.prog 32 #[.int .i64 m,.int .i64 p] w λe w'=>e=.returned (.bool (M.bit m p))/\w=w':=by
 have hb:=M.has_bit h0 h1 hp
 have hw:IntKind.i64.wrap (m.tdiv p)=m.tdiv p:=by
  rw [IntKind.wrap_i64]
  have:=Int.tdiv_eq_ediv_of_nonneg h0 (b:=p)
  rcases hp with rfl|rfl|rfl|rfl|rfl<;>rw [this]<;>omega
 have hw2:IntKind.i64.wrap ((m.tdiv p).tmod 2)=(m.tdiv p).tmod 2:=by
  rw [IntKind.wrap_i64]
  have:=Int.tdiv_nonneg h0 (show 0<=p by omega)
  have:=Int.tmod_eq_emod_of_nonneg this (b:=2)
  omega
 have hp0:(p==0)=false:=by rcases hp with rfl|rfl|rfl|rfl|rfl<;>rfl
 have hp1:p≠0:=by rcases hp with rfl|rfl|rfl|rfl|rfl<;>decide
 clear hp
 go_enter Tryz.func32,Tryz.ntmps32
 go_wp2
 go_ret
 refine ⟨ret_bool ?_,rfl⟩
 rw [←hb]
 rfl
theorem inB_calls (n lo hi:Int) (w:World):Calls Tryz.prog 16 #[.int .i64 n,.int .i64 lo,.int .i64 hi] w λe w'=>e=.returned (.bool (M.inB n lo hi))/\w=w':=by
 go_enter Tryz.func16,Tryz.ntmps16
 go_wp2
 all_goals
  go_ret
  refine ⟨ret_bool ?_,rfl⟩
  unfold M.inB
  rw [Bool.eq_iff_iff]
  first
   |(simp;done)
   |(simp;omega)
   |(simp_all;done)
theorem onlyOf_calls {m:Int} (h0:0<=m) (h1:m<=31) (r:M.Row) (w:World):Calls Tryz.prog 33 #[.int .i64 m,rowV r] w λe w'=>e=.returned (rowV (M.only m r))/\Below w.heap.size w w':=by
 have HH:=hI (λp hp W=>has_calls h0 h1 (p:=p) hp W)
 unfold M.only
 obtain ⟨b1,c1⟩:∃b,M.bit m 1=b:=⟨_,rfl⟩
 obtain ⟨b2,c2⟩:∃b,M.bit m 2=b:=⟨_,rfl⟩
 obtain ⟨b4,c4⟩:∃b,M.bit m 4=b:=⟨_,rfl⟩
 obtain ⟨b8,c8⟩:∃b,M.bit m 8=b:=⟨_,rfl⟩
 rw [c1,c2,c4,c8]
 have C1:=hI c1
 have C2:=hI c2
 have C4:=hI c4
 have C8:=hI c8
 clear c1 c2 c4 c8
 cases b1<;>cases b2<;>cases b4<;>cases b8
 all_goals
  go_enter Tryz.func33,Tryz.ntmps33
  go_wp2_with (go_at_call 32;refine (HH.out _ sS _).mono ?_;rintro e w' ⟨he,rfl⟩;(first|rw [C1.out] at he|rw [C2.out] at he|rw [C4.out] at he|rw [C8.out] at he);subst he)
  refine bodyPost_ret (v:=rowV (M.onlyAt _ _ _ _ r)) ?_ rfl ⟨rfl,bel9⟩
  simp only [results,Tryz.results33]
  go_simp
  simp [M.onlyAt]
def M.isRowN (b1 b2 b4 b8:Bool) (r:M.Row):Bool×Bool×Bool×Bool:=
 let o1:=if b1 then M.inB r.X (-1048576) 1048576 && M.inB r.Y (-1048576) 1048576 else true
 let o2:=if b2 then o1 && (M.inB r.PX (-16777216) 16777216 && M.inB r.PY (-16777216) 16777216) else o1
 let o4:=if b4 then o2 && (M.inB r.W 1 4096 && M.inB r.H 1 4096) else o2
 let o8:=if b8 then o4 && (M.inB r.M 1 9 && M.inB r.R 0 256) else o4
 (o1,o2,o4,o8)
theorem M.isRow_eq {m:Int} (h0:1<=m) (h1:m<=31) (r:M.Row):((M.isRowN (M.bit m 1) (M.bit m 2) (M.bit m 4) (M.bit m 8) r).2.2.2 && decide (r=M.only m r))=M.goodRow m r:=by
 rw [Bool.eq_iff_iff,M.goodRow_fits]
 unfold M.isRowN M.only M.inB
 obtain ⟨x,y,px,py,w,h,ma,re⟩:=r
 constructor
 ·intro hh
  simp only [Bool.and_eq_true,decide_eq_true_eq,M.onlyAt,M.Row.mk.injEq] at hh
  obtain ⟨ho,e1,e2,e3,e4,e5,e6,e7,e8⟩:=hh
  refine ⟨h0,h1,?_,?_,?_,?_,?_,?_,?_,?_⟩<;>intro hb<;>simp only [hb] at ho e1 e2 e3 e4 e5 e6 e7 e8<;>simp at ho e1 e2 e3 e4 e5 e6 e7 e8<;>simp_all
  all_goals (repeat' split at ho)<;>simp_all
 ·rintro ⟨_,_,p1,q1,p2,q2,p4,q4,p8,q8⟩
  cases c1:M.bit m 1<;>cases c2:M.bit m 2<;>cases c4:M.bit m 4<;>cases c8:M.bit m 8<;>simp [c1,c2,c4,c8] at p1 q1 p2 q2 p4 q4 p8 q8<;>simp [M.onlyAt]<;>omega
theorem wp_named2 {P:Program} {c:Code} {Q:Exit->Act->World->Prop} {a:Act} {w:World} (h:∀W,W=w->c.wp P Q a W):c.wp P Q a w:=h w rfl
theorem M.goodRow_out {m:Int} (h:¬(1<=m/\m<=31)) (r:M.Row):M.goodRow m r=false:=by
 unfold M.goodRow
 rw [decide_eq_false h]
 rfl
theorem isRow_calls (m:Int) (r:M.Row) (w:World):Calls Tryz.prog 27 #[.int .i64 m,rowV r] w λe w'=>e=.returned (.bool (M.goodRow m r))/\Below w.heap.size w w':=by
 by_cases hm:1<=m/\m<=31
 rotate_left
 ·have hin:M.inB m 1 31=false:=decide_eq_false hm
  have HI:=hI hin
  have HG:=hI (M.goodRow_out hm r)
  clear hm hin
  go_enter Tryz.func27,Tryz.ntmps27
  go_wp2_with (go_at_call 16;refine (inB_calls _ _ _ _).mono ?_;rintro e w' ⟨he,rfl⟩;rw [HI.out] at he;subst he)
  go_ret
  exact ⟨ret_bool HG.out.symm,bel9⟩
 obtain ⟨h0,h1⟩:=hm
 have HH:=hI (λp hp W=>has_calls (show 0<=m by omega) h1 (p:=p) hp W)
 have HO:=hI (λW=>onlyOf_calls (show 0<=m by omega) h1 r W)
 have hq:=M.isRow_eq h0 h1 r
 have hin:M.inB m 1 31=true:=decide_eq_true ⟨h0,h1⟩
 have HI:=hI hin
 obtain ⟨g,hg⟩:∃g,M.goodRow m r=g:=⟨_,rfl⟩
 obtain ⟨o,ho⟩:∃o,M.only m r=o:=⟨_,rfl⟩
 rw [hg] at hq⊢
 rw [ho] at hq HO
 obtain ⟨b1,c1⟩:∃b,M.bit m 1=b:=⟨_,rfl⟩
 obtain ⟨b2,c2⟩:∃b,M.bit m 2=b:=⟨_,rfl⟩
 obtain ⟨b4,c4⟩:∃b,M.bit m 4=b:=⟨_,rfl⟩
 obtain ⟨b8,c8⟩:∃b,M.bit m 8=b:=⟨_,rfl⟩
 rw [c1,c2,c4,c8] at hq
 have C1:=hI c1
 have C2:=hI c2
 have C4:=hI c4
 have C8:=hI c8
 have HQ:=hI hq
 clear c1 c2 c4 c8 hin hg ho h0 h1 hq
 obtain ⟨o1,ho1⟩:∃o,o=(if b1 then M.inB r.X (-1048576) 1048576 && M.inB r.Y (-1048576) 1048576 else true):=⟨_,rfl⟩
 obtain ⟨o2,ho2⟩:∃o,o=(if b2 then o1 && (M.inB r.PX (-16777216) 16777216 && M.inB r.PY (-16777216) 16777216) else o1):=⟨_,rfl⟩
 obtain ⟨o4,ho4⟩:∃o,o=(if b4 then o2 && (M.inB r.W 1 4096 && M.inB r.H 1 4096) else o2):=⟨_,rfl⟩
 obtain ⟨o8,ho8⟩:∃o,o=(if b8 then o4 && (M.inB r.M 1 9 && M.inB r.R 0 256) else o4):=⟨_,rfl⟩
 have HQ2:Hid ((o8 && decide (r=o))=g):=hI (by rw [←HQ.out,ho8,ho4,ho2,ho1];rfl)
 have O1:=hI ho1
 have O2:=hI ho2
 have O4:=hI ho4
 have O8:=hI ho8
 clear ho1 ho2 ho4 ho8 HQ
 go_enter Tryz.func27,Tryz.ntmps27
 go_upto_if 8 with (go_at_call 16;refine (inB_calls _ _ _ _).mono ?_;rintro e w' ⟨he,rfl⟩;rw [HI.out] at he;subst he)
 go_upto_if 10 with (go_at_call 32;refine (HH.out _ sS _).mono ?_;rintro e w' ⟨he,rfl⟩;(first|rw [C1.out] at he|rw [C2.out] at he|rw [C4.out] at he|rw [C8.out] at he);subst he)
 go_cut [5] (λq W=>q=.bool o1/\W=w.alloc (.cells (rowC r) 38))
 case first=>
  obtain ⟨a1,ha1⟩:∃a,M.inB r.X (-1048576) 1048576=a:=⟨_,rfl⟩
  obtain ⟨a2,ha2⟩:∃a,M.inB r.Y (-1048576) 1048576=a:=⟨_,rfl⟩
  have hon:=O1.out
  rw [ha1,ha2] at hon
  have A1:=hI ha1
  have A2:=hI ha2
  have HN:=hI hon
  clear ha1 ha2 hon
  cases b1
  ·go_wp2_with fail
   go_meet
   exact ⟨by rw [HN.out];rfl,rfl⟩
  ·cases a1
   ·go_wp2_with (go_at_call 16;refine (inB_calls _ _ _ _).mono ?_;rintro e w' ⟨he,rfl⟩;(first|rw [A1.out] at he|rw [A2.out] at he);subst he)
    go_meet
    exact ⟨by rw [HN.out];rfl,rfl⟩
   ·go_wp2_with (go_at_call 16;refine (inB_calls _ _ _ _).mono ?_;rintro e w' ⟨he,rfl⟩;(first|rw [A1.out] at he|rw [A2.out] at he);subst he)
    go_meet
    exact ⟨by rw [HN.out];simp,rfl⟩
 case rest=>
 obtain ⟨rfl,rfl⟩:=hcut
 go_upto_if 23 with (go_at_call 32;refine (HH.out _ sS _).mono ?_;rintro e w' ⟨he,rfl⟩;(first|rw [C1.out] at he|rw [C2.out] at he|rw [C4.out] at he|rw [C8.out] at he);subst he)
 go_cut [5] (λq W=>q=.bool o2/\W=w.alloc (.cells (rowC r) 38))
 case first=>
  obtain ⟨a1,ha1⟩:∃a,M.inB r.PX (-16777216) 16777216=a:=⟨_,rfl⟩
  obtain ⟨a2,ha2⟩:∃a,M.inB r.PY (-16777216) 16777216=a:=⟨_,rfl⟩
  have hon:=O2.out
  rw [ha1,ha2] at hon
  have A1:=hI ha1
  have A2:=hI ha2
  have HN:=hI hon
  clear ha1 ha2 hon
  cases b2
  ·go_wp2_with fail
   go_meet
   exact ⟨by rw [HN.out];rfl,rfl⟩
  ·cases o1
   ·go_wp2_with fail
    go_meet
    exact ⟨by rw [HN.out];rfl,rfl⟩
   ·cases a1
    ·go_wp2_with (go_at_call 16;refine (inB_calls _ _ _ _).mono ?_;rintro e w' ⟨he,rfl⟩;(first|rw [A1.out] at he|rw [A2.out] at he);subst he)
     go_meet
     exact ⟨by rw [HN.out];rfl,rfl⟩
    ·go_wp2_with (go_at_call 16;refine (inB_calls _ _ _ _).mono ?_;rintro e w' ⟨he,rfl⟩;(first|rw [A1.out] at he|rw [A2.out] at he);subst he)
     go_meet
     exact ⟨by rw [HN.out];simp,rfl⟩
 case rest=>
 obtain ⟨rfl,rfl⟩:=hcut
 go_upto_if 36 with (go_at_call 32;refine (HH.out _ sS _).mono ?_;rintro e w' ⟨he,rfl⟩;(first|rw [C1.out] at he|rw [C2.out] at he|rw [C4.out] at he|rw [C8.out] at he);subst he)
 go_cut [5] (λq W=>q=.bool o4/\W=w.alloc (.cells (rowC r) 38))
 case first=>
  obtain ⟨a1,ha1⟩:∃a,M.inB r.W 1 4096=a:=⟨_,rfl⟩
  obtain ⟨a2,ha2⟩:∃a,M.inB r.H 1 4096=a:=⟨_,rfl⟩
  have hon:=O4.out
  rw [ha1,ha2] at hon
  have A1:=hI ha1
  have A2:=hI ha2
  have HN:=hI hon
  clear ha1 ha2 hon
  cases b4
  ·go_wp2_with fail
   go_meet
   exact ⟨by rw [HN.out];rfl,rfl⟩
  ·cases o2
   ·go_wp2_with fail
    go_meet
    exact ⟨by rw [HN.out];rfl,rfl⟩
   ·cases a1
    ·go_wp2_with (go_at_call 16;refine (inB_calls _ _ _ _).mono ?_;rintro e w' ⟨he,rfl⟩;(first|rw [A1.out] at he|rw [A2.out] at he);subst he)
     go_meet
     exact ⟨by rw [HN.out];rfl,rfl⟩
    ·go_wp2_with (go_at_call 16;refine (inB_calls _ _ _ _).mono ?_;rintro e w' ⟨he,rfl⟩;(first|rw [A1.out] at he|rw [A2.out] at he);subst he)
     go_meet
     exact ⟨by rw [HN.out];simp,rfl⟩
 case rest=>
 obtain ⟨rfl,rfl⟩:=hcut
 go_upto_if 49 with (go_at_call 32;refine (HH.out _ sS _).mono ?_;rintro e w' ⟨he,rfl⟩;(first|rw [C1.out] at he|rw [C2.out] at he|rw [C4.out] at he|rw [C8.out] at he);subst he)
 go_cut [5] (λq W=>q=.bool o8/\W=w.alloc (.cells (rowC r) 38))
 case first=>
  obtain ⟨a1,ha1⟩:∃a,M.inB r.M 1 9=a:=⟨_,rfl⟩
  obtain ⟨a2,ha2⟩:∃a,M.inB r.R 0 256=a:=⟨_,rfl⟩
  have hon:=O8.out
  rw [ha1,ha2] at hon
  have A1:=hI ha1
  have A2:=hI ha2
  have HN:=hI hon
  clear ha1 ha2 hon
  cases b8
  ·go_wp2_with fail
   go_meet
   exact ⟨by rw [HN.out];rfl,rfl⟩
  ·cases o4
   ·go_wp2_with fail
    go_meet
    exact ⟨by rw [HN.out];rfl,rfl⟩
   ·cases a1
    ·go_wp2_with (go_at_call 16;refine (inB_calls _ _ _ _).mono ?_;rintro e w' ⟨he,rfl⟩;(first|rw [A1.out] at he|rw [A2.out] at he);subst he)
     go_meet
     exact ⟨by rw [HN.out];rfl,rfl⟩
    ·go_wp2_with (go_at_call 16;refine (inB_calls _ _ _ _).mono ?_;rintro e w' ⟨he,rfl⟩;(first|rw [A1.out] at he|rw [A2.out] at he);subst he)
     go_meet
     exact ⟨by rw [HN.out];simp,rfl⟩
 case rest=>
 obtain ⟨rfl,rfl⟩:=hcut
 cases o8
 ·go_wp2_with fail
  go_quiet (fail)
  go_wp2_with fail
  go_ret
  exact ⟨ret_bool HQ2.out,bel9⟩
 ·obtain ⟨q,hq⟩:∃q,decide (r=o)=q:=⟨_,rfl⟩
  have he5:=λW=>row_eql r o W
  rw [hq] at HQ2 he5
  clear hq
  go_wp2_with fail
  refine wp_named2 (λW0 hW0=>?_)
  have B0:Blk W0 w.heap.size 38 (rowC r):=by rw [hW0];exact Blk.new_at rfl
  have K0:Below w.heap.size w W0:=by rw [hW0];exact bel9
  have hz0:=K0.size
  have SB:=hI (λW (hb:Below W0.heap.size W0 W)=>show W.cell? ⟨w.heap.size,0,none⟩=some (.int .i64 r.X)/\W.cell? ⟨w.heap.size,1,none⟩=some (.int .i64 r.Y)/\W.cell? ⟨w.heap.size,2,none⟩=some (.int .i64 r.PX)/\W.cell? ⟨w.heap.size,3,none⟩=some (.int .i64 r.PY)/\W.cell? ⟨w.heap.size,4,none⟩=some (.int .i64 r.W)/\W.cell? ⟨w.heap.size,5,none⟩=some (.int .i64 r.H)/\W.cell? ⟨w.heap.size,6,none⟩=some (.int .i64 r.M)/\W.cell? ⟨w.heap.size,7,none⟩=some (.int .i64 r.R) from row_at (B0.below hb B0.lt))
  have lb0:=B0.lt
  obtain ⟨x0,x1,x2,x3,x4,x5,x6,x7⟩:=SB.out W0 (Below.refl _ _)
  clear hW0 B0
  go_region_held3 (λW=>W.cell? ⟨w.heap.size,0,none⟩=some (.int .i64 r.X)/\W.cell? ⟨w.heap.size,1,none⟩=some (.int .i64 r.Y)/\W.cell? ⟨w.heap.size,2,none⟩=some (.int .i64 r.PX)/\W.cell? ⟨w.heap.size,3,none⟩=some (.int .i64 r.PY)/\W.cell? ⟨w.heap.size,4,none⟩=some (.int .i64 r.W)/\W.cell? ⟨w.heap.size,5,none⟩=some (.int .i64 r.H)/\W.cell? ⟨w.heap.size,6,none⟩=some (.int .i64 r.M)/\W.cell? ⟨w.heap.size,7,none⟩=some (.int .i64 r.R)) (((with_reducible refine SB.out _ ?_);((repeat first|with_reducible assumption|with_reducible exact Below.refl _ _|with_reducible apply Below.drew|with_reducible apply below_drewN|with_reducible apply Below.alloc (hB:=(by first|omega|(simp;done)|(simp;omega)))|with_reducible apply Below.setCell (hp:=(by first|omega|(simp;done)|(simp;omega)))));done)) (first|(go_at_call 33;refine (HO.out _).mono ?_;rintro e w5 ⟨rfl,hb5⟩;have hb6:Below W0.heap.size W0 w5:=(show Below W0.heap.size W0 _ from bel9).trans (show Below W0.heap.size _ w5 from hb5);have hz5:=hb6.size))
  all_goals
   go_wp2_with fail
   go_ret
   exact ⟨ret_bool HQ2.out,K0.trans ((show Below W0.heap.size W0 _ from bel9).mono hz0)⟩
abbrev MapA (w:World) (b:Nat) (f:Int->Option M.Th) (c:Nat):Prop:=MapAt Tryz.prog 3 w b f c
abbrev RngA (w:World) (b r:Nat) (f:Int->Option M.Th) (c:Nat) (left:Int->Bool) (n:Nat):Prop:=RangeAt Tryz.prog 3 w b r f c left n
abbrev thC (t:M.Th):Array Value:=#[.int .i64 t.1,.int .i64 t.2.X,.int .i64 t.2.Y,.int .i64 t.2.PX,.int .i64 t.2.PY,.int .i64 t.2.W,.int .i64 t.2.H,.int .i64 t.2.M,.int .i64 t.2.R]
theorem th_zero (w:World):(zeroValue 83).run Tryz.prog w=.ok (thV M.th0) w:=Tryz.zeroValue83 w
def M.come (f:Int->Option M.Th) (left:Int->Bool):Int->Option M.Th:=λj=>if left j=true then none else f j
theorem M.come_start (f:Int->Option M.Th):M.come f (λid=>(f id).isSome)=λ_=>none:=by
 funext j
 unfold M.come
 cases h:f j<;>simp [h]
theorem M.come_step {f:Int->Option M.Th} {left:Int->Bool} {id:Int} {q:M.Th} (hf:f id=some q):M.upd (M.come f left) id q=M.come f (λj=>left j && !(j==id)):=by
 funext j
 unfold M.upd M.come
 by_cases h:j=id
 ·subst h;simp [hf]
 ·simp [h]
theorem M.come_end {f:Int->Option M.Th} {left:Int->Bool} (h:∀id,left id=false):M.come f left=f:=by
 funext j
 unfold M.come
 simp [h]
theorem copy_calls {w:World} {b c:Nat} {f:Int->Option M.Th} (h:MapA w b f c) (hc:c<=maxLen):
  Calls Tryz.prog 54 #[.map (some b)] w λe w'=>∃b',e=.returned (.map (some b'))/\MapA w' b' f c/\w.heap.size<=b'/\Below w.heap.size w w':=by
 have hmm:=@run_makeMap Tryz.prog
 have HM:=hI h
 have lb:=h.lt
 clear h
 go_enter Tryz.func54,Tryz.ntmps54
 have HMA:=hI (HM.out.alloc (.map #[] 0))
 have HN:=hI (MapAt.made Tryz.prog 3 w)
 go_wp2_with (first|(at_range;refine wpList_th_range _ rfl _ 44 rfl 3 83 Tryz.underlying3 Tryz.underlying44 b f c rfl HMA.out ?_;intro w0 hrg0 hg0 hs0;have HR0:=hI hrg0;have HG0:=hI hg0;(try simp at hs0);clear hrg0 hg0))
 go_frame
 simp only [World.size_alloc] at HR0 HG0⊢
 have HB0:Hid (Below w.heap.size w w0):=hI (((Below.refl _ w).alloc lR _).grown HG0.out sS sS)
 have HN0:Hid (MapA w0 w.heap.size (λ_=>none) 0):=hI (HN.out.kept HG0.out sS)
 go_loopg [] c (λgh wr=>∃(left:Int->Bool) (cb:Nat),RngA wr b (w.heap.size+1) f c left gh/\MapA wr w.heap.size (M.come f left) cb/\cb+gh<=c/\Below w.heap.size w wr)
 case atStart=>exact ⟨_,0,HR0.out,by rw [M.come_start];exact HN0.out,by omega,HB0.out⟩
 case round=>
  obtain ⟨wo,hwo⟩:∃wo,wo=wr:=⟨_,rfl⟩
  subst hwo
  obtain ⟨left,cb,hrg,hmb,hcb,hb⟩:=hrel
  have HRG:=hI hrg
  have HMB:=hI hmb
  have HB:=hI hb
  have hz:=hb.size
  have lm:=hmb.lt
  have lr:=hrg.lt
  clear hrg hmb hb
  go_wp2_with (first|(at_next;refine wpList_th_next _ rfl _ rfl 3 Tryz.underlying3 b (w.heap.size+1) f c left _ rfl HRG.out (λh0 hl0=>?_) (λid q w1 n1 hid hlt hfq hrg1 hn1 hg1 hs1 hen=>?_))|(at_mapUpdate;have HP1:=hI (MapAt.kept HMB.out hg1 sS);refine wpList_th_put _ rfl _ _ _ 44 rfl 3 83 Tryz.underlying3 Tryz.underlying44 w.heap.size _ cb rfl (HP1.out.alloc _) bO id q rfl hid rfl ?_;intro w2 hm2 ht2;have HM2:=hI hm2;have HT2:=hI ht2;have HHG1:=hI hg1;have HHR1:=hI hrg1;have HQ:=hI hfq;clear hm2 ht2 hg1 hrg1 hfq))
  ·go_ret
   have hm:=HMB.out
   rw [M.come_end hl0] at hm
   refine ⟨_,rfl,?_,Nat.le_refl _,HB.out⟩
   rw [←hm.count HM.out Tryz.underlying3]
   exact hm
  ·go_roundg n1
   case measure=>exact hn1
   case rel=>
    have hr1:=HHR1.out
    have hb2:Below w.heap.size w w1:=HB.out.grown HHG1.out hz sS
    have hb3:Below w.heap.size w w2:=below_turned (hb2.alloc bO _) HT2.out (by first|(simp;done)|(simp;omega)) lR
    have e0:(M.come f left id).isSome=false:=by unfold M.come;rw [hlt];rfl
    have hm2:=HM2.out
    rw [e0,M.come_step HQ.out] at hm2
    refine ⟨_,_,?_,hm2,by simp;omega,hb3⟩
    have n1:¬b=w.heap.size:=by omega
    have lb1:b<(w1.alloc (.cells (thC q) 83)).heap.size:=by simp;omega
    have lr1:w.heap.size+1<(w1.alloc (.cells (thC q) 83)).heap.size:=by simp;omega
    refine RangeAt.block hr1 ?_ ?_
    ·exact (HT2.out.grown.block b lb1 (by simpa using n1)).trans (Below.heap_alloc w1 _ b bO)
    ·exact (HT2.out.grown.block (w.heap.size+1) lr1 sS).trans (Below.heap_alloc w1 _ _ bO)
theorem row_eqIn (a:M.Row) (w:World):(Op.equalIn 9999 38 (rowV a) (rowV a)).run Tryz.prog w=.ok true w:=by
 have hS:Tryz.prog.underlying 38=some (.struct (Tryz.prog.fieldsOf 38)):=by kernel_rfl
 have hp:Tryz.prog.stoodInHeld 38=false:=by kernel_rfl
 obtain ⟨a0,a1,a2,a3,a4,a5,a6,a7⟩:=a
 rw [show (9999:Nat)=9998+1 from rfl,run_equalIn_agg w 9998 38 _ _ hS hp]
 simp only [Program.fieldsOf,Tryz.underlying38]
 go_simp
theorem th_neq_same (t:M.Th) (w:World):(binOp .neq 83 (thV t) (thV t)).run Tryz.prog w=.ok (.bool false) w:=by
 have hS:Tryz.prog.underlying 83=some (.struct (Tryz.prog.fieldsOf 83)):=by kernel_rfl
 have hp:Tryz.prog.stoodInHeld 83=false:=by kernel_rfl
 obtain ⟨m,a⟩:=t
 have hr:=row_eqIn a w
 rw [run_neq_struct,show (10000:Nat)=9999+1 from rfl,run_equalIn_agg w 9999 83 _ _ hS hp]
 simp only [Program.fieldsOf,Tryz.underlying83]
 obtain ⟨d,hd⟩:∃d,d=9999:=⟨_,rfl⟩
 rw [←hd] at hr⊢
 go_simp
theorem sameThings_calls {w:World} {a b c d:Nat} {f:Int->Option M.Th} (h:MapA w a f c) (k:MapA w b f d):
  Calls Tryz.prog 37 #[.map (some a),.map (some b)] w λe w'=>e=.returned (.bool true)/\Below w.heap.size w w':=by
 obtain rfl:c=d:=h.count k Tryz.underlying3
 have HM:=hI h
 have HK:=hI k
 have la:=h.lt
 have lb:=k.lt
 clear h k
 have q0:((c:Int) !=(c:Int))=false:=by simp
 go_enter Tryz.func37,Tryz.ntmps37
 go_wp2_with (first|(at_len;first|(refine wpList_th_len _ rfl _ 44 rfl 3 83 Tryz.underlying44 a f c rfl HM.out ?_)|(refine wpList_th_len _ rfl _ 44 rfl 3 83 Tryz.underlying44 b f c rfl HK.out ?_))|(at_range;refine wpList_th_range _ rfl _ 44 rfl 3 83 Tryz.underlying3 Tryz.underlying44 a f c rfl HM.out ?_;intro w0 hrg0 hg0 hs0;have HR0:=hI hrg0;have HG0:=hI hg0;(try simp at hs0);clear hrg0 hg0))
 go_frame
 have HB0:Hid (Below w.heap.size w w0):=hI ((Below.refl _ w).grown HG0.out sS sS)
 have HK0:Hid (MapA w0 b f c):=hI (HK.out.kept HG0.out sS)
 go_loopg [] c (λgh wr=>∃(left:Int->Bool),RngA wr a w.heap.size f c left gh/\MapA wr b f c/\Below w.heap.size w wr)
 case atStart=>exact ⟨_,HR0.out,HK0.out,HB0.out⟩
 case round=>
  obtain ⟨wo,hwo⟩:∃wo,wo=wr:=⟨_,rfl⟩
  subst hwo
  obtain ⟨left,hrg,hmb,hb⟩:=hrel
  have HRG:=hI hrg
  have HMB:=hI hmb
  have HB:=hI hb
  have hz:=hb.size
  have lr:=hrg.lt
  clear hrg hmb hb
  go_wp2_with (first|(at_next;refine wpList_th_next _ rfl _ rfl 3 Tryz.underlying3 a w.heap.size f c left _ rfl HRG.out (λh0 hl0=>?_) (λid q w1 n1 hid hlt hfq hrg1 hn1 hg1 hs1 hen=>?_))|(at_lookup;have HP1:=hI (MapAt.kept HMB.out hg1 sO);refine wpList_th_look _ rfl _ _ 44 rfl 3 83 Tryz.underlying3 Tryz.underlying44 (th_zero _) b f c rfl (HP1.out.alloc _) id rfl hid ?_;rw [hfq];have HHG1:=hI hg1;have HHR1:=hI hrg1;have HEQ:=hI (λW=>th_neq_same q W);clear hg1 hrg1 hfq))
  ·go_ret
   exact ⟨rfl,HB.out⟩
  ·go_roundg n1
   case measure=>exact hn1
   case rel=>
    have hr1:=HHR1.out
    have hb2:Below w.heap.size w w1:=HB.out.grown HHG1.out hz sS
    have hz2:=hb2.size
    refine ⟨λj=>left j && !(j==id),?_,?_,?_⟩
    ·exact hr1.below (Below.alloc (Below.alloc (Below.refl w1.heap.size w1) lR _) sS _) bO bO
    ·exact ((MapAt.kept HMB.out HHG1.out sO).alloc _).alloc _
    ·exact bel9
theorem wrap64_kind (x:Int):wrap64 x=IntKind.i64.wrap x:=by rw [IntKind.wrap_i64];unfold wrap64;rfl
theorem thingsOf_calls {w:World} {lo:Nat} {v:Value} {s:M.Store} (h:StoreAt w lo v s) (hin:StoreIn s) (hsz:Sized s):
  Calls Tryz.prog 35 #[v] w λe w'=>∃m,e=.returned (.tuple #[.map m,.bool (M.good s)])/\(M.good s=true->∃b,m=some b/\w.heap.size<=b/\MapA w' b (M.look (M.entries s)) (M.size s))/\Below w.heap.size w w':=by
 obtain ⟨vt,rfl,hs,hT⟩:=h
 obtain ⟨a,cap,rfl⟩:=hT.val
 have hmx:s.tables.length<=9223372036854775807:=by have:=hT.max;unfold maxLen at this;omega
 have HT:=hI hT
 clear hT
 have HI:=hI hin
 have HSZ:=hI hsz
 have hsm:∀t∈s.tables,t.ids.length<=17592186044416:=λt ht=>by have:=(hsz.2 t ht).1;omega
 have HSM:=hI hsm
 clear hin hsz hsm
 have hmm:=@run_makeMap Tryz.prog
 go_enter Tryz.func35,Tryz.ntmps35
 go_wp2_with fail
 go_loopg [5,16] s.tables.length (λg m i wr=>∃n:Nat,n<=s.tables.length/\i=.int .i64 n/\m=.int .i64 (M.lastM s n)/\g=s.tables.length-n/\
  Below (w.heap.size+1) (w.alloc (.cells #[.slice a s.tables.length cap,.int .i64 s.next] 51)) wr/\MapA wr (w.heap.size+1) (M.look (M.entriesT (s.tables.take n))) (M.idsT (s.tables.take n)).length/\M.Upto (M.alike s) n)
 case atStart=>
  refine ⟨0,Nat.zero_le _,rfl,rfl,rfl,(Below.refl _ _).alloc sS _,?_,M.upto_zero _⟩
  have:=MapAt.made Tryz.prog 3 (w.alloc (.cells #[.slice a s.tables.length cap,.int .i64 s.next] 51))
  simp only [World.size_alloc] at this
  exact this
 case round=>
  obtain ⟨wo,hwo⟩:∃wo,wo=wr:=⟨_,rfl⟩
  subst hwo
  obtain ⟨n,hn,rfl,rfl,hg,hb1,hmap,hup⟩:=hrel
  have HB1:=hI hb1
  have HB:=hI (((Below.refl _ w).alloc lR _).trans (hb1.mono (B':=w.heap.size) bO))
  have hz:=hb1.size
  simp only [World.size_alloc] at hz
  have HG:=hI hg
  have lt2:w.heap.size+1<wo.heap.size:=hmap.lt
  have HM:=hI hmap
  have HU:=hI hup
  have k0:=hb1.cell (p:=⟨w.heap.size,0,none⟩) sS
  have k1:=hb1.cell (p:=⟨w.heap.size,1,none⟩) sS
  simp at k0 k1
  clear hb1 hg hmap hup
  rcases Nat.lt_or_ge n s.tables.length with hlt|hge
  ·obtain ⟨t,ht⟩:∃t,s.tables[n]?=some t:=⟨_,List.getElem?_eq_getElem hlt⟩
   obtain ⟨b,o,cap',a1,cp1,a2,cp2,e,hlo,hp,c0,c1,c2,h1,h2⟩:=HT.out.at2 ht
   replace c0:=below_cell c0 HB.out
   replace c1:=below_cell c1 HB.out
   replace c2:=below_cell c2 HB.out
   obtain ⟨rfl,rfl⟩:a=some ⟨b,o,none⟩/\cap=cap':=by simpa using e
   have HT2:=hI ht
   have HR:=hI h2
   have HJ:=hI h1
   have hm1:t.ids.length<=9223372036854775807:=by have:=h1.max;unfold maxLen at this;omega
   have hm2:t.rows.length<=9223372036854775807:=by have:=h2.max;unfold maxLen at this;omega
   have hBA:Below w.heap.size w wo:=HB.out
   have lt0:w.heap.size<wo.heap.size:=by omega
   clear e hlo hp h1 h2 ht
   obtain ⟨la,hla⟩:∃la,la=M.lastM s n:=⟨_,rfl⟩
   rw [←hla]
   have HLA:=hI hla
   clear hla
   by_cases z0:t.mask<=la
   ·have hbad:=M.bad_last HT2.out (by rw [←HLA.out];exact z0)
    have HBAD:=hI hbad
    clear hbad
    go_wp2_with fail
    go_ret2
    exact ⟨none,by rw [HBAD.out];rfl,λh=>absurd (HBAD.out.symm.trans h) sS,hBA.trans ((show Below wo.heap.size wo _ from bel9).mono bO)⟩
   have z0':decide (t.mask<=la)=false:=decide_eq_false z0
   by_cases z1:((t.ids.length:Int)==0)=true
   ·have hbad:=M.bad_len HT2.out (.inl (by simpa using z1))
    have HBAD:=hI hbad
    clear hbad
    go_wp2_with fail
    go_ret2
    exact ⟨none,by rw [HBAD.out];rfl,λh=>absurd (HBAD.out.symm.trans h) sS,hBA.trans ((show Below wo.heap.size wo _ from bel9).mono bO)⟩
   have z1:((t.ids.length:Int)==0)=false:=by simpa using z1
   by_cases z2:((t.rows.length:Int) !=(t.ids.length:Int))=true
   ·have hbad:=M.bad_len HT2.out (.inr (by simp at z2;omega))
    have HBAD:=hI hbad
    clear hbad
    go_wp2_with fail
    go_ret2
    exact ⟨none,by rw [HBAD.out];rfl,λh=>absurd (HBAD.out.symm.trans h) sS,hBA.trans ((show Below wo.heap.size wo _ from bel9).mono bO)⟩
   have z2:((t.rows.length:Int) !=(t.ids.length:Int))=false:=by simpa using z2
   have N1:Hid (t.ids.length≠0):=hI (by intro e;rw [e] at z1;simp at z1)
   have N2:Hid (t.ids.length=t.rows.length):=hI (by have h:=z2;simp only [bne_eq_false_iff_eq] at h;omega)
   have N3:=hI (M.last_up (s:=s) (n:=n) (t:=t) (by rw [←HLA.out];exact z0))
   go_upto_region 9 with fail
   refine wp_named2 λwl hwl=>?_
   have BT:Blk wl wo.heap.size 102 #[.int .i64 t.mask,.slice a1 t.ids.length cp1,.slice a2 t.rows.length cp2]:=by rw [hwl];exact Blk.new_at rfl
   have KL:Below wo.heap.size wo wl:=by rw [hwl];exact bel9
   have MT:MapA wl (w.heap.size+1) (M.look (M.entriesT (s.tables.take n))) (M.idsT (s.tables.take n)).length:=HM.out.below KL lt2
   have kl:=KL.size
   have ll:=BT.lt
   have HBT:=hI BT
   have HKL:=hI KL
   have HMT:=hI MT
   have HB2:Hid (Below (w.heap.size+1) (w.alloc (.cells #[.slice (some ⟨b,o,none⟩) s.tables.length cap,.int .i64 s.next] 51)) wl):=hI (HB1.out.trans (KL.mono bO))
   have y1:=BT.cell 1
   simp at y1
   clear hwl BT KL MT c0 c1 c2 k0 k1 hBA z0 z0' z1 z2
   go_wp2_with fail
   go_loopg [44] t.ids.length (λg j wq=>∃k:Nat,k<=t.ids.length/\j=.int .i64 k/\g=t.ids.length-k/\
    Below (w.heap.size+1) (w.alloc (.cells #[.slice (some ⟨b,o,none⟩) s.tables.length cap,.int .i64 s.next] 51)) wq/\
    Blk wq wo.heap.size 102 #[.int .i64 t.mask,.slice a1 t.ids.length cp1,.slice a2 t.rows.length cp2]/\
    MapA wq (w.heap.size+1) (M.look (M.taken s n k t)) ((M.idsT (s.tables.take n)).length+k)/\M.Inner (M.alike s) n k t)
   case atStart=>
    refine ⟨0,Nat.zero_le _,rfl,rfl,HB2.out,HBT.out,?_,M.inner_zero HU.out t⟩
    rw [M.taken_zero]
    exact HMT.out
   case round=>
    obtain ⟨wq,hwq⟩:∃wq,wq=wr:=⟨_,rfl⟩
    subst hwq
    obtain ⟨k,hk,rfl,hg2,hq1,hbt,hmap,hinn⟩:=hrel
    have HQ1:=hI hq1
    have HQ:=hI (((Below.refl _ w).alloc lR _).trans (hq1.mono (B':=w.heap.size) bO))
    have HG2:=hI hg2
    have HMQ:=hI hmap
    have HIN:=hI hinn
    have HBQ:=hI hbt
    have l1:=hq1.cell (p:=⟨w.heap.size,1,none⟩) sS
    simp at l1
    have lq:=hbt.lt
    have lm:=hmap.lt
    have l0:w.heap.size<wq.heap.size:=by omega
    clear hq1 hg2 hmap hinn hbt y1
    rcases Nat.lt_or_ge k t.ids.length with hlt2|hge2
    ·obtain ⟨id,hid⟩:∃id,t.ids[k]?=some id:=⟨_,List.getElem?_eq_getElem hlt2⟩
     have hlt3:k<t.rows.length:=by have:=N2.out;omega
     obtain ⟨r,hr⟩:∃r,t.rows[k]?=some r:=⟨_,List.getElem?_eq_getElem hlt3⟩
     obtain ⟨b3,o3,cap3,e3,_,i0⟩:=(HJ.out.below HQ.out).at hid
     obtain ⟨b4,o4,cap4,e4,_,rc⟩:=(HR.out.below HQ.out).at8 hr
     obtain ⟨rfl,rfl⟩:a1=some ⟨b3,o3,none⟩/\cp1=cap3:=by simpa using e3
     obtain ⟨rfl,rfl⟩:a2=some ⟨b4,o4,none⟩/\cp2=cap4:=by simpa using e4
     have HRC:=hI rc
     have HID:=hI hid
     have HRR:=hI hr
     clear e3 e4 hid hr rc
     have hi64:I64 id:=(HI.out.2 t (List.mem_of_getElem? HT2.out)).2.1 id (List.mem_of_getElem? HID.out)
     have HI64:=hI hi64
     have EID:Hid ((M.taken s n k t).map (·.1)=M.idsT (s.tables.take n)++t.ids.take k):=hI (M.taken_ids (k:=k) (M.upto_even (s:=M.alike s) HU.out) N2.out)
     have hfd:=M.look_some_iff (E:=M.taken s n k t) (id:=id)
     rw [EID.out] at hfd
     obtain ⟨fv,hfv⟩:∃fv,fv=(M.look (M.taken s n k t) id).getD M.th0:=⟨_,rfl⟩
     obtain ⟨tw,htw⟩:∃tw,tw=(M.look (M.taken s n k t) id).isSome:=⟨_,rfl⟩
     rw [←htw] at hfd
     have HFD:=hI hfd
     have HFV:=hI hfv
     have HTW:=hI htw
     clear hi64 hfd hfv htw
     go_upto_region 13 with (at_lookup;refine wpList_th_look _ rfl _ _ 44 rfl 3 83 Tryz.underlying3 Tryz.underlying44 (th_zero _) (w.heap.size+1) _ _ rfl HMQ.out id rfl HI64.out ?_;rw [←HFV.out,←HTW.out])
     refine wp_named2 λW0 hW0=>?_
     have KW:Below wq.heap.size wq W0:=by rw [hW0];exact bel9
     have kw:=KW.size
     have HKW:=hI KW
     have HKW0:=hI (HQ.out.trans (KW.mono bO))
     have HBT0:=hI (HBQ.out.below KW lq)
     have n1:=below_cell l1 KW
     have hal:(M.alike s).next=wrap64 (s.next-1)+1:=rfl
     have HAL:=hI hal
     have lw:W0.heap.size=wq.heap.size+1:=by rw [hW0];simp
     have HT2':Hid ((M.alike s).tables[n]?=some t):=hI HT2.out
     obtain ⟨y1,y0,y2⟩:=(show W0.cell? ⟨wo.heap.size,1,none⟩=some (.slice (some ⟨b3,o3,none⟩) t.ids.length cp1)/\W0.cell? ⟨wo.heap.size,0,none⟩=some (.int .i64 t.mask)/\W0.cell? ⟨wo.heap.size,2,none⟩=some (.slice (some ⟨b4,o4,none⟩) t.rows.length cp2) from ⟨HBT0.out.cell 1,HBT0.out.cell 0,HBT0.out.cell 2⟩)
     have SB:=hI (λW (hb:Below W0.heap.size W0 W)=>show W.cell? ⟨w.heap.size,1,none⟩=some (.int .i64 s.next)/\W.cell? ⟨wo.heap.size,0,none⟩=some (.int .i64 t.mask)/\W.cell? ⟨wo.heap.size,2,none⟩=some (.slice (some ⟨b4,o4,none⟩) t.rows.length cp2)/\W.cell? ⟨b4,o4+k*8,none⟩=some (.int .i64 r.X)/\W.cell? ⟨b4,o4+k*8+1,none⟩=some (.int .i64 r.Y)/\W.cell? ⟨b4,o4+k*8+2,none⟩=some (.int .i64 r.PX)/\W.cell? ⟨b4,o4+k*8+3,none⟩=some (.int .i64 r.PY)/\W.cell? ⟨b4,o4+k*8+4,none⟩=some (.int .i64 r.W)/\W.cell? ⟨b4,o4+k*8+5,none⟩=some (.int .i64 r.H)/\W.cell? ⟨b4,o4+k*8+6,none⟩=some (.int .i64 r.M)/\W.cell? ⟨b4,o4+k*8+7,none⟩=some (.int .i64 r.R) from by
      refine ⟨below_cell n1 hb,below_cell y0 hb,below_cell y2 hb,?_⟩
      obtain ⟨b5,o5,c5,e5,_,rc⟩:=((HR.out.below HKW0.out).below hb).at8 HRR.out
      obtain ⟨⟨rfl,rfl⟩,rfl⟩:(b4=b5/\o4=o5)/\cp2=c5:=by simpa using e5
      exact rc)
     obtain ⟨_,_,_,x0,x1,x2,x3,x4,x5,x6,x7⟩:=SB.out W0 (Below.refl _ _)
     clear hW0 KW i0 hal
     obtain ⟨nx,hnx⟩:∃nx,nx=wrap64 (s.next-1):=⟨_,rfl⟩
     have HNX:=hI hnx
     rw [←hnx] at HAL
     go_cut [74] (λq W=>∃bad,q=.bool bad/\Below W0.heap.size W0 W/\M.Tested1 (M.alike s) n k t id r bad)
     case first=>
      cases tw with
      |true=>
       have hmem:id∈M.idsT (s.tables.take n)++t.ids.take k:=by have:=HFD.out;simpa using this.symm
       have HME:=hI hmem
       clear hmem
       go_wp2_with fail
       go_quiet (fail)
       go_wp2_with fail
       go_meet
       exact ⟨true,rfl,below_drewN (Below.refl _ _) _,M.bad_twice HT2'.out HID.out HME.out⟩
      |false=>
       have hmem:¬id∈M.idsT (s.tables.take n)++t.ids.take k:=by have:=HFD.out;simpa using this.symm
       have HME:=hI hmem
       clear hmem
       by_cases hi:0<=id/\id<=nx
       ·have HII:=hI hi
        have hin:M.inB id 0 nx=true:=decide_eq_true hi
        have hwi:=λW=>inB_calls id 0 (wrap64 (s.next-1)) W
        rw [←HNX.out,hin] at hwi
        rw [HNX.out] at hwi
        have HWI:=hI hwi
        have hwj:=hwi
        rw [wrap64_kind] at hwj
        have HWJ:=hI hwj
        clear hwi hwj
        clear hin hi
        obtain ⟨gr,hgr⟩:∃g,g=M.goodRow t.mask r:=⟨_,rfl⟩
        have HGR:=hI (λW=>isRow_calls t.mask r W)
        rw [←hgr] at HGR
        have HGE:=hI hgr
        clear hgr
        go_wp2_with fail
        go_region_held3 (λW=>W.cell? ⟨w.heap.size,1,none⟩=some (.int .i64 s.next)/\W.cell? ⟨wo.heap.size,0,none⟩=some (.int .i64 t.mask)/\W.cell? ⟨wo.heap.size,2,none⟩=some (.slice (some ⟨b4,o4,none⟩) t.rows.length cp2)/\W.cell? ⟨b4,o4+k*8,none⟩=some (.int .i64 r.X)/\W.cell? ⟨b4,o4+k*8+1,none⟩=some (.int .i64 r.Y)/\W.cell? ⟨b4,o4+k*8+2,none⟩=some (.int .i64 r.PX)/\W.cell? ⟨b4,o4+k*8+3,none⟩=some (.int .i64 r.PY)/\W.cell? ⟨b4,o4+k*8+4,none⟩=some (.int .i64 r.W)/\W.cell? ⟨b4,o4+k*8+5,none⟩=some (.int .i64 r.H)/\W.cell? ⟨b4,o4+k*8+6,none⟩=some (.int .i64 r.M)/\W.cell? ⟨b4,o4+k*8+7,none⟩=some (.int .i64 r.R)) (((with_reducible refine SB.out _ ?_);((repeat first|with_reducible assumption|with_reducible exact Below.refl _ _|with_reducible apply Below.drew|with_reducible apply below_drewN|with_reducible apply Below.alloc (hB:=(by first|omega|(simp;done)|(simp;omega)))|with_reducible apply Below.setCell (hp:=(by first|omega|(simp;done)|(simp;omega)))));done)) (first|(go_at_call 16;refine (HWJ.out _).mono ?_;rintro e w' ⟨rfl,rfl⟩)|(go_at_call 27;refine (HGR.out _).mono ?_;rintro e w5 ⟨rfl,hb5⟩;have hb6:Below W0.heap.size W0 w5:=(show Below W0.heap.size W0 _ from bel9).trans (show Below W0.heap.size _ w5 from hb5);have hz5:=hb6.size))
        all_goals
         go_wp2_with fail
         go_meet
         exact ⟨!gr,rfl,by assumption,M.tested1_row HGE.out HT2'.out HRR.out (by have:=HII.out;omega) (by have:=HII.out;have:=HAL.out;omega) HME.out⟩
       ·have hin:M.inB id 0 nx=false:=decide_eq_false hi
        have hwi:=λW=>inB_calls id 0 (wrap64 (s.next-1)) W
        rw [←HNX.out,hin] at hwi
        rw [HNX.out] at hwi
        have HWI:=hI hwi
        have hwj:=hwi
        rw [wrap64_kind] at hwj
        have HWJ:=hI hwj
        clear hwi hwj
        have HNI:=hI hi
        clear hin hi
        go_wp2_with fail
        go_quiet ((go_at_call 16;exact quiet_left (HWI.out _)))
        go_wp2_with fail
        go_meet
        exact ⟨true,rfl,below_drewN (Below.refl _ _) _,M.bad_id HT2'.out HID.out (by have:=HNI.out;have:=HAL.out;omega)⟩
     case rest=>
      obtain ⟨bad,rfl,hbw,htest⟩:=hcut
      have HTT:=hI htest
      have HBW:=hI hbw
      have HBC:Hid (Below w.heap.size w wc):=hI (HKW0.out.trans (hbw.mono bO))
      have kc:=hbw.size
      clear htest
      cases bad
      case true=>
       have HBAD:=hI (M.alike_bad (s:=s) HTT.out)
       have hB:=HBC.out
       go_wp2_with fail
       go_ret2
       exact ⟨none,by rw [HBAD.out];rfl,λh=>absurd (HBAD.out.symm.trans h) sS,hB⟩
      have hT1:=HTT.out
      obtain ⟨t1,t2,t3⟩:=hT1
      have INN:=hI (M.inner_step HIN.out HID.out HRR.out t1.1 t1.2 t2 t3)
      have hsmall:=M.upto_small (s:=M.alike s) HU.out HSM.out
      have hsm2:=HSM.out t (List.mem_of_getElem? HT2.out)
      have HNM:Hid (id∉(M.taken s n k t).map (·.1)):=hI (by rw [EID.out];exact t2)
      have hMQ:MapA wc (w.heap.size+1) (M.look (M.taken s n k t)) ((M.idsT (s.tables.take n)).length+k):=(HMQ.out.below HKW.out lm).below hbw bO
      have hsmall':(M.idsT (s.tables.take n)).length<=562949953421312:=hsmall
      obtain ⟨w2,hput,hm2,ht2⟩:=MapAt.put (w:=wc.drew) hMQ.drew Tryz.underlying3 Tryz.underlying44 (by unfold maxLen;omega) HI64.out (t.mask,r)
      have e0:(M.look (M.taken s n k t) id).isSome=false:=by rw [M.look_some_iff];exact decide_eq_false HNM.out
      rw [e0,←M.look_snoc HNM.out,←M.taken_succ HID.out HRR.out] at hm2
      simp only [thV] at hput
      have HM2:=hI hm2
      have HT3:=hI ht2
      have lm2:w.heap.size+1<wo.heap.size:=lt2
      have hnb:∀j,j≠w.heap.size+1->j<wc.heap.size->w2.heap[j]?=wc.heap[j]?:=λj hj hl=>ht2.grown.block j hl (by simpa using hj)
      have HNB:=hI hnb
      have SB2:=hI (λW (hb:Below wc.heap.size wc W)=>show W.cell? ⟨wo.heap.size,0,none⟩=some (.int .i64 t.mask)/\W.cell? ⟨wo.heap.size,2,none⟩=some (.slice (some ⟨b4,o4,none⟩) t.rows.length cp2)/\W.cell? ⟨b4,o4+k*8,none⟩=some (.int .i64 r.X)/\W.cell? ⟨b4,o4+k*8+1,none⟩=some (.int .i64 r.Y)/\W.cell? ⟨b4,o4+k*8+2,none⟩=some (.int .i64 r.PX)/\W.cell? ⟨b4,o4+k*8+3,none⟩=some (.int .i64 r.PY)/\W.cell? ⟨b4,o4+k*8+4,none⟩=some (.int .i64 r.W)/\W.cell? ⟨b4,o4+k*8+5,none⟩=some (.int .i64 r.H)/\W.cell? ⟨b4,o4+k*8+6,none⟩=some (.int .i64 r.M)/\W.cell? ⟨b4,o4+k*8+7,none⟩=some (.int .i64 r.R) from (SB.out W (hbw.trans (hb.mono bO))).2)
      have b4n:b4<w.heap.size:=by
       obtain ⟨b5,o5,c5,e5,_,rc⟩:=HR.out.at8 HRR.out
       obtain ⟨⟨rfl,rfl⟩,rfl⟩:(b4=b5/\o4=o5)/\cp2=c5:=by simpa using e5
       exact cell_lt rc.1
      have SD:=hI (show (λW=>W.cell? ⟨wo.heap.size,0,none⟩=some (.int .i64 t.mask)/\W.cell? ⟨wo.heap.size,2,none⟩=some (.slice (some ⟨b4,o4,none⟩) t.rows.length cp2)/\W.cell? ⟨b4,o4+k*8,none⟩=some (.int .i64 r.X)/\W.cell? ⟨b4,o4+k*8+1,none⟩=some (.int .i64 r.Y)/\W.cell? ⟨b4,o4+k*8+2,none⟩=some (.int .i64 r.PX)/\W.cell? ⟨b4,o4+k*8+3,none⟩=some (.int .i64 r.PY)/\W.cell? ⟨b4,o4+k*8+4,none⟩=some (.int .i64 r.W)/\W.cell? ⟨b4,o4+k*8+5,none⟩=some (.int .i64 r.H)/\W.cell? ⟨b4,o4+k*8+6,none⟩=some (.int .i64 r.M)/\W.cell? ⟨b4,o4+k*8+7,none⟩=some (.int .i64 r.R)) w2 from by
       obtain ⟨z0,z2,z3,z4,z5,z6,z7,z8,z9,z10⟩:=SB2.out wc (Below.refl _ _)
       have m1:¬wo.heap.size=w.heap.size+1:=by omega
       have m2:¬b4=w.heap.size+1:=by omega
       have gc:=λo v (hv:wc.cell? ⟨wo.heap.size,o,none⟩=some v)=>ht2.grown.cell (a:=⟨wo.heap.size,o,none⟩) hv (by simpa using m1)
       have gd:=λo v (hv:wc.cell? ⟨b4,o,none⟩=some v)=>ht2.grown.cell (a:=⟨b4,o,none⟩) hv (by simpa using m2)
       exact ⟨gc _ _ z0,gc _ _ z2,gd _ _ z3,gd _ _ z4,gd _ _ z5,gd _ _ z6,gd _ _ z7,gd _ _ z8,gd _ _ z9,gd _ _ z10⟩)
      obtain ⟨y0,y2,x0,x1,x2,x3,x4,x5,x6,x7⟩:=SB2.out wc (Below.refl _ _)
      clear hm2 ht2 hnb hMQ e0 t1 t2 t3 hsmall hsmall' hsm2 n1
      go_wp2_with fail
      go_region_held3 (λW=>W.cell? ⟨wo.heap.size,0,none⟩=some (.int .i64 t.mask)/\W.cell? ⟨wo.heap.size,2,none⟩=some (.slice (some ⟨b4,o4,none⟩) t.rows.length cp2)/\W.cell? ⟨b4,o4+k*8,none⟩=some (.int .i64 r.X)/\W.cell? ⟨b4,o4+k*8+1,none⟩=some (.int .i64 r.Y)/\W.cell? ⟨b4,o4+k*8+2,none⟩=some (.int .i64 r.PX)/\W.cell? ⟨b4,o4+k*8+3,none⟩=some (.int .i64 r.PY)/\W.cell? ⟨b4,o4+k*8+4,none⟩=some (.int .i64 r.W)/\W.cell? ⟨b4,o4+k*8+5,none⟩=some (.int .i64 r.H)/\W.cell? ⟨b4,o4+k*8+6,none⟩=some (.int .i64 r.M)/\W.cell? ⟨b4,o4+k*8+7,none⟩=some (.int .i64 r.R)) (first|(((with_reducible refine SB2.out _ ?_);((repeat first|with_reducible assumption|with_reducible exact Below.refl _ _|with_reducible apply Below.drew|with_reducible apply below_drewN|with_reducible apply Below.alloc (hB:=(by first|omega|(simp;done)|(simp;omega)))|with_reducible apply Below.setCell (hp:=(by first|omega|(simp;done)|(simp;omega)))));done))|(exact SD.out)) (fail)
      all_goals
       go_wp2_with fail
       go_roundg (t.ids.length-(k+1))
       case measure=>rw [HG2.out];omega
       case rel=>
        have hq3:Below (w.heap.size+1) (w.alloc (.cells #[.slice (some ⟨b,o,none⟩) s.tables.length cap,.int .i64 s.next] 51)) wc:=(HQ1.out.trans (HKW.out.mono bO)).trans (hbw.mono bO)
        refine ⟨k+1,by omega,by go_num,rfl,?_,?_,HM2.out,INN.out⟩
        ·exact below_turned (w:=wc.drew) hq3.drew HT3.out (by show w.heap.size+1<=wc.heap.size;omega) lR
        ·exact (HNB.out wo.heap.size bO bO).trans (HBT0.out.below hbw bO)
    ·obtain rfl:k=t.ids.length:=by omega
     have UPS:Hid (M.Upto (M.alike s) (n+1)):=hI (M.upto_step HU.out HT2.out N1.out N2.out N3.out HIN.out)
     have ES:Hid ((M.idsT (s.tables.take (n+1))).length=(M.idsT (s.tables.take n)).length+t.ids.length):=hI (by rw [M.take_snoc HT2.out,M.idsT_append,M.idsT_one,List.length_append])
     have hm:=HMQ.out
     rw [M.taken_all HT2.out N2.out,←ES.out] at hm
     have HM2:=hI hm
     have HLS:=hI (M.lastM_succ HT2.out)
     have q9:decide ((t.ids.length:Int)<(t.ids.length:Int))=false:=decide_eq_false bO
     clear hm hge2 hk
     go_wp2_with fail
     go_roundg (s.tables.length-(n+1))
     case measure=>rw [HG.out];omega
     case rel=>exact ⟨n+1,by omega,by go_num,by rw [HLS.out],rfl,HQ1.out,HM2.out,UPS.out⟩
  ·obtain rfl:n=s.tables.length:=by omega
   rw [List.take_length] at HM
   have hgd:=M.good_last HU.out
   have HGD:=hI hgd
   have q9:decide ((s.tables.length:Int)<(s.tables.length:Int))=false:=decide_eq_false bO
   have HSI:Hid (M.size s=(M.idsT s.tables).length):=hI rfl
   clear hgd hge hn
   obtain ⟨c,hc⟩:∃c,c=(M.idsT s.tables).length:=⟨_,rfl⟩
   rw [←hc] at HM HGD HSI
   clear hc
   obtain ⟨q,hq⟩:∃q,q=M.inB s.next 0 1048576:=⟨_,rfl⟩
   have HW:=hI (λW=>inB_calls s.next 0 1048576 W)
   rw [←hq] at HW
   have HQ:=hI hq
   clear hq
   by_cases d1:(c:Int)<=10
   ·have D1:=hI d1
    go_wp2_with (first|(at_len;refine wpList_th_len _ rfl _ 44 rfl 3 83 Tryz.underlying44 (w.heap.size+1) _ c rfl HM.out ?_)|(go_at_call 16;refine (HW.out _).mono ?_;rintro e w' ⟨rfl,rfl⟩))
    go_ret2
    exact ⟨some (w.heap.size+1),by rw [HGD.out,HQ.out];simp [M.inB,D1.out],λ_=>⟨_,rfl,by omega,by rw [HSI.out];exact HM.out⟩,HB.out⟩
   ·have d1':decide ((c:Int)<=10)=false:=decide_eq_false d1
    have D1:=hI d1
    go_wp2_with (first|(at_len;refine wpList_th_len _ rfl _ 44 rfl 3 83 Tryz.underlying44 (w.heap.size+1) _ c rfl HM.out ?_))
    go_ret2
    exact ⟨some (w.heap.size+1),by rw [HGD.out,decide_eq_false (show ¬(c:Int)<=10 by have:=D1.out;omega)];rfl,λ_=>⟨_,rfl,by omega,by rw [HSI.out];exact HM.out⟩,HB.out⟩
theorem M.moves3_tab:∀m:Fin 32,M.moves m.val=(M.bit m.val 1 && (M.bit m.val 2 && M.bit m.val 8)):=by decide
theorem M.moves3_bits {m:Int} (h0:0<=m) (h1:m<=31):M.moves m=(M.bit m 1 && (M.bit m 2 && M.bit m 8)):=by
 obtain ⟨f,rfl⟩:=M.fin_of h0 h1
 exact M.moves3_tab f
theorem moves_calls {m:Int} (h0:0<=m) (h1:m<=31) (w:World):Calls Tryz.prog 56 #[.int .i64 m] w λe w'=>e=.returned (.bool (M.moves m))/\w=w':=by
 rw [M.moves3_bits h0 h1]
 have HH:=hI (λp hp W=>has_calls h0 h1 (p:=p) hp W)
 obtain ⟨b1,e1⟩:∃b,M.bit m 1=b:=⟨_,rfl⟩
 obtain ⟨b2,e2⟩:∃b,M.bit m 2=b:=⟨_,rfl⟩
 obtain ⟨b8,e8⟩:∃b,M.bit m 8=b:=⟨_,rfl⟩
 rw [e1,e2,e8]
 have C1:=hI e1
 have C2:=hI e2
 have C8:=hI e8
 clear e1 e2 e8 h0 h1
 rcases b1 with _|_<;>rcases b2 with _|_
 all_goals
  go_enter Tryz.func56,Tryz.ntmps56
  go_wp2_with (go_at_call 32;refine (HH.out _ sS _).mono ?_;rintro e w' ⟨he,rfl⟩;(first|rw [C1.out] at he|rw [C2.out] at he|rw [C8.out] at he);subst he)
  go_ret
  exact ⟨by first|rfl|simp,rfl⟩
theorem free_calls {m:Int} (h0:0<=m) (h1:m<=31) (r:M.Row) (w:World):Calls Tryz.prog 59 #[thV (m,r)] w λe w'=>e=.returned (rowV (M.freeRow m r))/\Below w.heap.size w w':=by
 have HM:=hI (λW=>moves_calls h0 h1 W)
 by_cases hm:M.moves m=true
 ·have e:M.freeRow m r=r:=by unfold M.freeRow;rw [if_pos hm]
  rw [e]
  rw [hm] at HM
  clear hm e
  go_enter Tryz.func59,Tryz.ntmps59
  go_wp2_with (go_at_call 56;refine (HM.out _).mono ?_;rintro e w' ⟨rfl,rfl⟩)
  refine bodyPost_ret (v:=rowV r) ?_ rfl ⟨rfl,bel9⟩
  simp only [results,Tryz.results59]
  go_simp
 ·have hm':M.moves m=false:=by simpa using hm
  have e:M.freeRow m r={r with PX:=0,PY:=0,M:=0}:=by unfold M.freeRow;rw [if_neg hm]
  rw [e]
  rw [hm'] at HM
  clear hm e hm'
  go_enter Tryz.func59,Tryz.ntmps59
  go_wp2_with (go_at_call 56;refine (HM.out _).mono ?_;rintro e w' ⟨rfl,rfl⟩)
  refine bodyPost_ret (v:=rowV {r with PX:=0,PY:=0,M:=0}) ?_ rfl ⟨rfl,bel9⟩
  simp only [results,Tryz.results59]
  go_simp
abbrev rwV (b:Nat) (next fall wide high:Int):Value:=.agg #[.map (some b),.int .i64 next,.int .i64 fall,.int .i64 wide,.int .i64 high]
theorem wcopy_calls {w:World} {b c:Nat} {f:Int->Option M.Th} (h:MapA w b f c) (hc:c<=maxLen) (next fall wide high:Int):
  Calls Tryz.prog 28 #[rwV b next fall wide high] w λe w'=>∃b',e=.returned (rwV b' next fall wide high)/\MapA w' b' f c/\w.heap.size<=b'/\Below w.heap.size w w':=by
 have HC:=hI (λU (hb:Below w.heap.size w U)=>copy_calls (h.below hb h.lt) hc)
 clear h
 go_enter Tryz.func28,Tryz.ntmps28
 go_wp2_with (go_at_call 54;go_loud (refine (HC.out _ bel9).mono ?_;rintro e w1 ⟨b1,rfl,hm1,hl1,hb1⟩;have HM1:=hI hm1;have kz1:=hb1.size;(try simp at kz1);(try simp at hl1);have l1:=hm1.lt;have K1:Below w.heap.size w w1:=(show Below w.heap.size w _ from bel9).trans (hb1.mono sid9);have b0:Blk w1 w.heap.size 46 #[.map (some b),.int .i64 next,.int .i64 fall,.int .i64 wide,.int .i64 high]:=Blk.below ((Blk.new_at rfl).alloc _) hb1 sid9;have y0:=b0.cell 0;have y1:=b0.cell 1;have y2:=b0.cell 2;have y3:=b0.cell 3;have y4:=b0.cell 4;simp at y0 y1 y2 y3 y4;have c0:Blk w1 (w.heap.size+1) 46 #[.map none,.int .i64 0,.int .i64 0,.int .i64 0,.int .i64 0]:=Blk.below (Blk.new_at sS) hb1 sid9;have lb0:=b0.lt;have lc0:=c0.lt;have yf:=λi=>b0.free i;have zf:=λi=>c0.free i;have z0:=c0.cell 0;have z1:=c0.cell 1;have z2:=c0.cell 2;have z3:=c0.cell 3;have z4:=c0.cell 4;simp at z0 z1 z2 z3 z4;clear hm1))
 refine bodyPost_ret (v:=rwV b1 next fall wide high) ?_ rfl ⟨b1,rfl,?_,by omega,bel9⟩
 ·simp only [results,Tryz.results28]
  go_simp
 ·have q1:b1≠w.heap.size:=by omega
  have q2:b1≠w.heap.size+1:=by omega
  refine HM1.out.block ?_
  simp [World.setCell,Array.getElem?_modify,q1.symm,q2.symm]
theorem sameWorld_calls {w:World} {a b c d:Nat} {f:Int->Option M.Th} (h:MapA w a f c) (k:MapA w b f d) (next fall wide high:Int):
  Calls Tryz.prog 13 #[rwV a next fall wide high,rwV b next fall wide high] w λe w'=>e=.returned (.bool true)/\Below w.heap.size w w':=by
 have HS:=hI (λU (hb:Below w.heap.size w U)=>sameThings_calls (h.below hb h.lt) (k.below hb k.lt))
 clear h k
 go_enter Tryz.func13,Tryz.ntmps13
 go_wp2_with (go_at_call 37;go_loud (refine (HS.out _ bel9).mono ?_;rintro e w1 ⟨rfl,hb1⟩;have kz1:=hb1.size;(try simp at kz1);have K1:Below w.heap.size w w1:=(show Below w.heap.size w _ from bel9).trans (hb1.mono sid9);have b0:Blk w1 w.heap.size 46 #[.map (some a),.int .i64 next,.int .i64 fall,.int .i64 wide,.int .i64 high]:=Blk.below ((Blk.new_at rfl).alloc _) hb1 sid9;have y0:=b0.cell 0;have y1:=b0.cell 1;have y2:=b0.cell 2;have y3:=b0.cell 3;have y4:=b0.cell 4;simp at y0 y1 y2 y3 y4;have c0:Blk w1 (w.heap.size+1) 46 #[.map (some b),.int .i64 next,.int .i64 fall,.int .i64 wide,.int .i64 high]:=Blk.below (Blk.new_at sS) hb1 sid9;have z0:=c0.cell 0;have z1:=c0.cell 1;have z2:=c0.cell 2;have z3:=c0.cell 3;have z4:=c0.cell 4;simp at z0 z1 z2 z3 z4))
 go_ret
 exact ⟨by first|rfl|simp,bel9⟩
def FarO (g:Nat) (W W':World):Prop:=(∀b,b≠g->W'.heap[b]?=W.heap[b]?)/\W'.heap.size=W.heap.size/\W'.os=W.os/\W'.tape=W.tape/\W'.output=W.output
theorem FarO.refl (g:Nat) (W:World):FarO g W W:=⟨λ_ _=>rfl,rfl,rfl,rfl,rfl⟩
theorem FarO.set {g:Nat} {W W':World} (h:FarO g W W') (i:Nat) (u:Value):FarO g W (W'.setCell ⟨g,i,none⟩ u):=
 ⟨λb hb=>(bS _ _ _ _ hb).trans (h.1 b hb),by rw [←h.2.1];simp [World.setCell],h.2.2.1,h.2.2.2.1,h.2.2.2.2⟩
theorem FarO.trans {g:Nat} {a b c:World} (h:FarO g a b) (k:FarO g b c):FarO g a c:=
 ⟨λx hx=>(k.1 x hx).trans (h.1 x hx),k.2.1.trans h.2.1,k.2.2.1.trans h.2.2.1,k.2.2.2.1.trans h.2.2.2.1,k.2.2.2.2.trans h.2.2.2.2⟩
theorem FarO.drew {g:Nat} {a b:World} (h:FarO g a b):FarO g a b.drew:=h
theorem FarO.below {g B:Nat} {a b:World} (h:FarO g a b) (hg:B<=g):Below B a b:=⟨h.2.2.1,h.2.2.2.1,h.2.2.2.2,by rw [h.2.1];exact Nat.le_refl _,λk hk=>h.1 k bO⟩
structure TwoBlk (T:TypeId) (z cA cB:Array Value) (i1 i2 s1 s2:Nat) (W0:World) (g:Nat×Nat) (l:Array Bool) (W:World):Prop where
 bel:Below W0.heap.size W0 W
 one:l.getD i1 false=true->W0.heap.size<=g.1/\Blk W g.1 T (if l.getD s1 false=true then cA else z)
 two:l.getD i2 false=true->W0.heap.size<=g.2/\Blk W g.2 T (if l.getD s2 false=true then cB else z)
 ne:l.getD i1 false=true->l.getD i2 false=true->g.1≠g.2
section
variable {T:TypeId} {z cA cB:Array Value} {i1 i2 s1 s2 k:Nat} {W0 W W':World} {g:Nat×Nat} {l:Array Bool}
theorem TwoBlk.start (n:Nat):TwoBlk T z cA cB i1 i2 s1 s2 W0 g (Array.replicate n false) W0:=by
 have h:∀i,¬(Array.replicate n false).getD i false=true:=λi=>by
  by_cases hi:i<n<;>simp [Array.getD,hi]
 exact ⟨Below.refl _ _,λe=>absurd e (h _),λe=>absurd e (h _),λe=>absurd e (h _)⟩
theorem TwoBlk.more (h:TwoBlk T z cA cB i1 i2 s1 s2 W0 g l W) (hb:Below W.heap.size W W') (n1:k≠i1) (n2:k≠i2) (n3:k≠s1) (n4:k≠s2):TwoBlk T z cA cB i1 i2 s1 s2 W0 g (l.setIfInBounds k true) W':=by
 refine ⟨h.bel.trans (hb.mono h.bel.size),?_,?_,?_⟩
 ·rw [DG.set_ne n1,DG.set_ne n3]
  exact λe=>⟨(h.one e).1,(h.one e).2.below hb (h.one e).2.lt⟩
 ·rw [DG.set_ne n2,DG.set_ne n4]
  exact λe=>⟨(h.two e).1,(h.two e).2.below hb (h.two e).2.lt⟩
 ·rw [DG.set_ne n1,DG.set_ne n2]
  exact h.ne
theorem TwoBlk.keep (h:TwoBlk T z cA cB i1 i2 s1 s2 W0 g l W) (n1:k≠i1) (n2:k≠i2) (n3:k≠s1) (n4:k≠s2):TwoBlk T z cA cB i1 i2 s1 s2 W0 g (l.setIfInBounds k true) W:=h.more (Below.refl _ _) n1 n2 n3 n4
theorem TwoBlk.make1 (h:TwoBlk T z cA cB i1 i2 s1 s2 W0 g l W) (hs:l.getD s1 false=false) (n12:i1≠i2) (n1:i1≠s1) (n2:i1≠s2):TwoBlk T z cA cB i1 i2 s1 s2 W0 (W.heap.size,g.2) (l.setIfInBounds i1 true) (W.alloc (.cells z T)):=by
 refine ⟨h.bel.alloc h.bel.size _,λ_=>⟨h.bel.size,?_⟩,?_,?_⟩
 ·rw [DG.set_ne n1,hs]
  exact Blk.new _ _ _
 ·rw [DG.set_ne n12,DG.set_ne n2]
  exact λe=>⟨(h.two e).1,(h.two e).2.alloc _⟩
 ·rw [DG.set_ne n12]
  intro _ e
  have:=(h.two e).2.lt
  show W.heap.size≠g.2
  omega
theorem TwoBlk.make2 (h:TwoBlk T z cA cB i1 i2 s1 s2 W0 g l W) (hs:l.getD s2 false=false) (n12:i2≠i1) (n1:i2≠s2) (n2:i2≠s1):TwoBlk T z cA cB i1 i2 s1 s2 W0 (g.1,W.heap.size) (l.setIfInBounds i2 true) (W.alloc (.cells z T)):=by
 refine ⟨h.bel.alloc h.bel.size _,?_,λ_=>⟨h.bel.size,?_⟩,?_⟩
 ·rw [DG.set_ne n12,DG.set_ne n2]
  exact λe=>⟨(h.one e).1,(h.one e).2.alloc _⟩
 ·rw [DG.set_ne n1,hs]
  exact Blk.new _ _ _
 ·rw [DG.set_ne n12]
  intro e _
  have:=(h.one e).2.lt
  show g.1≠W.heap.size
  omega
theorem TwoBlk.fill1 (h:TwoBlk T z cA cB i1 i2 s1 s2 W0 g l W) (hi:l.getD i1 false=true) (hz:s1<l.size) (n1:s1≠i1) (n2:s1≠i2) (n3:s1≠s2) (hf:FarO g.1 W W') (hb:Blk W' g.1 T cA):TwoBlk T z cA cB i1 i2 s1 s2 W0 g (l.setIfInBounds s1 true) W':=by
 refine ⟨h.bel.trans (hf.below (h.one hi).1),λ_=>⟨(h.one hi).1,by rw [DG.set_eq hz];exact hb⟩,?_,?_⟩
 ·rw [DG.set_ne n2,DG.set_ne n3]
  exact λe=>⟨(h.two e).1,(hf.1 _ (λe2=>h.ne hi e e2.symm)).trans (h.two e).2⟩
 ·rw [DG.set_ne n1,DG.set_ne n2]
  exact h.ne
theorem TwoBlk.fill2 (h:TwoBlk T z cA cB i1 i2 s1 s2 W0 g l W) (hi:l.getD i2 false=true) (hz:s2<l.size) (n1:s2≠i2) (n2:s2≠i1) (n3:s2≠s1) (hf:FarO g.2 W W') (hb:Blk W' g.2 T cB):TwoBlk T z cA cB i1 i2 s1 s2 W0 g (l.setIfInBounds s2 true) W':=by
 refine ⟨h.bel.trans (hf.below (h.two hi).1),?_,λ_=>⟨(h.two hi).1,by rw [DG.set_eq hz];exact hb⟩,?_⟩
 ·rw [DG.set_ne n2,DG.set_ne n3]
  exact λe=>⟨(h.one e).1,(hf.1 _ (λe2=>h.ne e hi e2)).trans (h.one e).2⟩
 ·rw [DG.set_ne n1,DG.set_ne n2]
  exact h.ne
end
end Go.Proofs.YtemkbjaojinaoaaGreat
