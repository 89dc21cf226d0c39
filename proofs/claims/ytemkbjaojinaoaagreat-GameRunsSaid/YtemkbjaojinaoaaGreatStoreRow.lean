/- The contracts of package store on rows: part, GoodRow, Only, with. Condition: none (with: numbers of 64 bits). -/
import Derived.Test.YtemkbjaojinaoaaGreatShort
import Derived.Test.YtemkbjaojinaoaaGreatBagP
import Derived.Test.YtemkbjaojinaoaaGreatMem
import Derived.Test.YtemkbjaojinaoaaGreatKit
import Derived.Lib.QuietBelow
import Derived.Deep.DeepCutAuto
import Derived.Test.YtemkbjaojinaoaaGreatRowCells
set_option linter.unusedVariables false
set_option linter.unusedSimpArgs false
set_option maxRecDepth 100000
set_option maxHeartbeats 1000000
namespace Go.Proofs.YtemkbjaojinaoaaGreat
open Go.RowKit
theorem isPart_calls (is:Bool) (a b lo hi:Int) (w:World):
  Calls Tryz.prog 68 #[.bool is,.int .i64 a,.int .i64 b,.int .i64 lo,.int .i64 hi] w λe w'=>e=.returned (.bool (M.isPart is a b lo hi))/\w=w':=by
 cases is
 all_goals
  go_enter Tryz.func68,Tryz.ntmps68
  go_wp2
  all_goals
   go_ret
   refine ⟨ret_bool ?_,rfl⟩
   unfold M.isPart
   rw [Bool.eq_iff_iff]
   first
    |(simp;done)
    |(simp;omega)
    |(simp_all;done)
    |(simp_all;omega)
theorem goodRow_calls (mask:Int) (r:M.Row) (w:World):
  Calls Tryz.prog 40 #[.int .i64 mask,rowV r] w λe w'=>e=.returned (.bool (M.goodRow mask r))/\Below w.heap.size w w':=by
 go_enter Tryz.func40,Tryz.ntmps40
 go_wp2_with (go_at_call 68;refine (isPart_calls _ _ _ _ _ _).mono ?_;rintro e w' ⟨rfl,rfl⟩)
 all_goals
  go_ret
  refine ⟨ret_bool ?_,(Below.refl _ w).alloc lR _⟩
  unfold M.goodRow M.bit
  rw [Bool.eq_iff_iff]
  first
   |(simp [*];done)
   |(simp [*];omega)
   |(simp_all;done)
   |(simp;intros;omega)
def OnlyAt (w:World) (r r':M.Row) (W:World):Prop:=
 Blk W w.heap.size 38 (rowC r)/\Blk W (w.heap.size+1) 38 (rowC M.row0)/\Blk W (w.heap.size+2) 38 (rowC r')/\Below w.heap.size w W
theorem OnlyAt.put2 {w W:World} {r r' r'':M.Row} (h:OnlyAt w r r' W) (i j:Nat) (u v:Value) (e:((rowC r').setIfInBounds i u).setIfInBounds j v=rowC r''):
  OnlyAt w r r'' ((W.setCell ⟨w.heap.size+2,i,none⟩ u).setCell ⟨w.heap.size+2,j,none⟩ v).drew:=by
 obtain ⟨h1,h2,h3,h4⟩:=h
 have n1:w.heap.size≠w.heap.size+2:=by omega
 have n2:w.heap.size+1≠w.heap.size+2:=by omega
 have k:=(h3.put i u).put j v
 rw [e] at k
 exact ⟨((h1.far (p:=⟨w.heap.size+2,i,none⟩) n1 u).far (p:=⟨w.heap.size+2,j,none⟩) n1 v).drew,((h2.far (p:=⟨w.heap.size+2,i,none⟩) n2 u).far (p:=⟨w.heap.size+2,j,none⟩) n2 v).drew,k.drew,
  ((h4.setCell (p:=⟨w.heap.size+2,i,none⟩) sS u).setCell (p:=⟨w.heap.size+2,j,none⟩) sS v).drew⟩
theorem wp_named {P:Program} {c:Code} {Q:Exit->Act->World->Prop} {a:Act} {w:World} (h:∀W,W=w->c.wp P Q a W):c.wp P Q a w:=h w rfl
theorem only_start (w:World) (r:M.Row):OnlyAt w r M.row0 (((w.alloc (.cells (rowC r) 38)).alloc (.cells (rowC M.row0) 38)).alloc (.cells (rowC M.row0) 38)):=by
 refine ⟨((Blk.new w _ _).alloc _).alloc _,?_,?_,(((Below.refl _ w).alloc lR _).alloc sS _).alloc sO _⟩
 ·have h:=(Blk.new (w.alloc (.cells (rowC r) 38)) 38 (rowC M.row0)).alloc (.cells (rowC M.row0) 38);simp at h;exact h
 ·have h:=Blk.new ((w.alloc (.cells (rowC r) 38)).alloc (.cells (rowC M.row0) 38)) 38 (rowC M.row0);simp at h;exact h
theorem only_calls (mask:Int) (r:M.Row) (w:World):
  Calls Tryz.prog 74 #[.int .i64 mask,rowV r] w λe w'=>e=.returned (rowV (M.only mask r))/\Below w.heap.size w w':=by
 unfold M.only
 obtain ⟨b1,e1⟩:∃b,M.bit mask 1=b:=⟨_,rfl⟩
 obtain ⟨b2,e2⟩:∃b,M.bit mask 2=b:=⟨_,rfl⟩
 obtain ⟨b4,e4⟩:∃b,M.bit mask 4=b:=⟨_,rfl⟩
 obtain ⟨b8,e8⟩:∃b,M.bit mask 8=b:=⟨_,rfl⟩
 rw [e1,e2,e4,e8]
 unfold M.bit at e1 e2 e4 e8
 go_enter Tryz.func74,Tryz.ntmps74
 go_upto_if 8 with fail
 have h0:=only_start w r
 refine wp_named λwc hwc=>?_
 have hcut:OnlyAt w r (M.onlyAt false false false false r) wc:=by rw [hwc];exact h0
 clear h0 hwc
 have HO:=hI hcut
 obtain ⟨o1,o2,o3,o4⟩:=hcut
 have l3:=o3.lt
 have oz:=o4.size
 obtain ⟨x0,x1,x2,x3,x4,x5,x6,x7⟩:=row_at o1
 obtain ⟨y0,y1,y2,y3,y4,y5,y6,y7⟩:=row_at o3
 have yf:=λi=>o3.free i
 clear o1 o2 o3 o4
 go_cut [] (λW=>OnlyAt w r (M.onlyAt b1 false false false r) W)
 case first=>
  cases b1
  ·go_wp2_with fail
   go_meet
   exact HO.out
  ·go_wp2_with fail
   go_region
   all_goals
    go_wp2_with fail
    go_meet
    first|exact HO.out.put2 0 1 (.int .i64 r.X) (.int .i64 r.Y) rfl|exact HO.out.put2 1 0 (.int .i64 r.Y) (.int .i64 r.X) rfl
 case rest=>
  clear x0 x1 x2 x3 x4 x5 x6 x7 y0 y1 y2 y3 y4 y5 y6 y7 yf oz l3 HO
  have HO:=hI hcut
  obtain ⟨o1,o2,o3,o4⟩:=hcut
  have l3:=o3.lt
  have oz:=o4.size
  obtain ⟨x0,x1,x2,x3,x4,x5,x6,x7⟩:=row_at o1
  obtain ⟨y0,y1,y2,y3,y4,y5,y6,y7⟩:=row_at o3
  have yf:=λi=>o3.free i
  clear o1 o2 o3 o4
  go_upto_if 17 with fail
  go_cut [] (λW=>OnlyAt w r (M.onlyAt b1 b2 false false r) W)
  case first=>
   cases b2
   ·go_wp2_with fail
    go_meet
    exact HO.out
   ·go_wp2_with fail
    go_region
    all_goals
     go_wp2_with fail
     go_meet
     first|exact HO.out.put2 2 3 (.int .i64 r.PX) (.int .i64 r.PY) rfl|exact HO.out.put2 3 2 (.int .i64 r.PY) (.int .i64 r.PX) rfl
  case rest=>
   clear x0 x1 x2 x3 x4 x5 x6 x7 y0 y1 y2 y3 y4 y5 y6 y7 yf oz l3 HO
   have HO:=hI hcut
   obtain ⟨o1,o2,o3,o4⟩:=hcut
   have l3:=o3.lt
   have oz:=o4.size
   obtain ⟨x0,x1,x2,x3,x4,x5,x6,x7⟩:=row_at o1
   obtain ⟨y0,y1,y2,y3,y4,y5,y6,y7⟩:=row_at o3
   have yf:=λi=>o3.free i
   clear o1 o2 o3 o4
   go_upto_if 26 with fail
   go_cut [] (λW=>OnlyAt w r (M.onlyAt b1 b2 b4 false r) W)
   case first=>
    cases b4
    ·go_wp2_with fail
     go_meet
     exact HO.out
    ·go_wp2_with fail
     go_region
     all_goals
      go_wp2_with fail
      go_meet
      first|exact HO.out.put2 4 5 (.int .i64 r.W) (.int .i64 r.H) rfl|exact HO.out.put2 5 4 (.int .i64 r.H) (.int .i64 r.W) rfl
   case rest=>
    clear x0 x1 x2 x3 x4 x5 x6 x7 y0 y1 y2 y3 y4 y5 y6 y7 yf oz l3 HO
    have HO:=hI hcut
    obtain ⟨o1,o2,o3,o4⟩:=hcut
    have l3:=o3.lt
    have oz:=o4.size
    obtain ⟨x0,x1,x2,x3,x4,x5,x6,x7⟩:=row_at o1
    obtain ⟨y0,y1,y2,y3,y4,y5,y6,y7⟩:=row_at o3
    have yf:=λi=>o3.free i
    clear o1 o2 o3 o4
    go_upto_if 35 with fail
    go_cut [] (λW=>OnlyAt w r (M.onlyAt b1 b2 b4 b8 r) W)
    case first=>
     cases b8
     ·go_wp2_with fail
      go_meet
      exact HO.out
     ·go_wp2_with fail
      go_region
      all_goals
       go_wp2_with fail
       go_meet
       first|exact HO.out.put2 6 7 (.int .i64 r.M) (.int .i64 r.R) rfl|exact HO.out.put2 7 6 (.int .i64 r.R) (.int .i64 r.M) rfl
    case rest=>
     clear x0 x1 x2 x3 x4 x5 x6 x7 y0 y1 y2 y3 y4 y5 y6 y7 yf oz l3 HO
     obtain ⟨o1,o2,o3,o4⟩:=hcut
     have l3:=o3.lt
     have HK:=hI o4
     obtain ⟨y0,y1,y2,y3,y4,y5,y6,y7⟩:=row_at o3
     obtain ⟨z0,z1,z2,z3,z4,z5,z6,z7⟩:=row_at o2
     have zf:=λi=>o2.free i
     clear o1 o2 o3 o4
     obtain ⟨q,hq⟩:∃q,q=M.onlyAt b1 b2 b4 b8 r:=⟨_,rfl⟩
     rw [←hq] at y0 y1 y2 y3 y4 y5 y6 y7
     have HQ:=hI hq
     clear hq
     go_wp2
     refine bodyPost_ret (v:=rowV q) ?_ rfl ⟨by rw [HQ.out],?_⟩
     ·simp only [results,Tryz.results74]
      go_simp
     ·repeat first|with_reducible exact HK.out|with_reducible apply Below.setCell (hp:=sid9)
end Go.Proofs.YtemkbjaojinaoaaGreat
