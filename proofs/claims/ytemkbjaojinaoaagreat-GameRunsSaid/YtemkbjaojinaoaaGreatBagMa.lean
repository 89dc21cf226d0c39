/- Several small texts in one. No condition of its own: each part says its own. -/
import Derived.Test.YtemkbjaojinaoaaGreatShort
import Derived.Test.YtemkbjaojinaoaaGreatBagSo
import Derived.Test.YtemkbjaojinaoaaGreatRowCells
import Derived.RegionTactic
import Derived.BigRegion
import Derived.ChangeAlike
import Derived.Laws.ResultCell
import Derived.Deep.DeepCutAuto
set_option linter.unusedVariables false
set_option linter.unusedSimpArgs false
set_option maxRecDepth 100000
set_option maxHeartbeats 4000000
namespace Go.Proofs.YtemkbjaojinaoaaGreat
open Go.RowKit
theorem lineX_calls (a b:M.Row) (w:World) (bx bz:Nat) (va vb way dep:Int) (hx:Blk w bx 38 (rowC a)) (hy:Blk w bz 38 (rowC b)) (hne:bx≠bz)
  (a1:0<=a.M/\a.M<=9) (a2:0<=a.R/\a.R<=256) (b1:0<=b.M/\b.M<=9) (b2:0<=b.R/\b.R<=256)
  (h1:-16777216<=va/\va<=16777216) (h2:-16777216<=vb/\vb<=16777216) (h3:1<=dep/\dep<=8192) (h4:-1<=way/\way<=1):
  Calls Tryz.prog 105 #[.pointer (some ⟨bx,0,none⟩),.pointer (some ⟨bz,0,none⟩),.pointer (some ⟨bx,2,none⟩),.pointer (some ⟨bz,2,none⟩),.int .i64 va,.int .i64 vb,.int .i64 way,.int .i64 dep,rowV a,rowV b] w λe w'=>
   e=.returned (.tuple #[])/\Blk w' bx 38 (rowC {a with X:=M.pa a.X way dep a.M b.M,PX:=M.qa a.PX ((va-vb)*way) way a.M b.M a.R b.R})
    /\Blk w' bz 38 (rowC {b with X:=M.pb b.X way dep a.M b.M,PX:=M.qb b.PX ((va-vb)*way) way a.M b.M a.R b.R})
    /\∀B,B<=bx->B<=bz->Below B w w':=by
 have n1:=M.mul_bd (va-vb) way 33554432 1 bO bO bO bO
 have m1:=M.mOf_bd a.M b.M a1 b1
 have m2:=M.nOf_bd a.M b.M a1 b1
 have n2:=M.mul_bd ((va-vb)*way) (M.mOf a.M b.M) 33554432 81 bO bO bO bO
 have n4:=M.part_bd ((va-vb)*way*M.mOf a.M b.M) (256+b.R) (M.nOf a.M b.M*256)
 have n5:=M.part_bd ((va-vb)*way*M.mOf a.M b.M) (256+a.R) (M.nOf a.M b.M*256)
 have n6:=M.mul_bd (M.part ((va-vb)*way*M.mOf a.M b.M) (256+b.R) (M.nOf a.M b.M*256)) way 72057594037927936 1 bO bO bO bO
 have n7:=M.mul_bd (M.part ((va-vb)*way*M.mOf a.M b.M) (256+a.R) (M.nOf a.M b.M*256)) way 72057594037927936 1 bO bO bO bO
 have n8:=M.mul_bd (-(dep / 2)) way 8192 1 bO bO bO bO
 have n9:=M.mul_bd (dep-dep / 2) way 8192 1 bO bO bO bO
 have n10:=M.mul_bd (-dep) way 8192 1 bO bO bO bO
 have n11:=M.mul_bd dep way 8192 1 bO bO bO bO
 have lx:=hx.lt
 have ly:=hy.lt
 have F1:∀o1 o2,((w.alloc o1).alloc o2).cell? ⟨bx,0,none⟩=some (.int .i64 a.X):=λo1 o2=>(rowX_facts ((hx.alloc o1).alloc o2)).1.1
 have F2:∀o1 o2,((w.alloc o1).alloc o2).cell? ⟨bz,0,none⟩=some (.int .i64 b.X):=λo1 o2=>(rowX_facts ((hy.alloc o1).alloc o2)).1.1
 have F3:∀o1 o2,((w.alloc o1).alloc o2).frozen? ⟨bx,0,none⟩=false:=λo1 o2=>(rowX_facts ((hx.alloc o1).alloc o2)).2.1
 have F4:∀o1 o2,((w.alloc o1).alloc o2).frozen? ⟨bz,0,none⟩=false:=λo1 o2=>(rowX_facts ((hy.alloc o1).alloc o2)).2.1
 have F5:∀v o1 o2,(((w.setCell ⟨bx,0,none⟩ v).alloc o1).alloc o2).cell? ⟨bz,0,none⟩=some (.int .i64 b.X):=λv o1 o2=>(rowX_facts (((hy.far (p:=⟨bx,0,none⟩) hne.symm v).alloc o1).alloc o2)).1.1
 have F6:∀v o1 o2,(((w.setCell ⟨bx,0,none⟩ v).alloc o1).alloc o2).frozen? ⟨bz,0,none⟩=false:=λv o1 o2=>(rowX_facts (((hy.far (p:=⟨bx,0,none⟩) hne.symm v).alloc o1).alloc o2)).2.1
 have HX:=hI hx
 have HY:=hI hy
 clear hx hy
 by_cases c1:0<(va-vb)*way
 ·by_cases c4:b.R<a.R<;>by_cases c2:0<a.M<;>by_cases c3:0<b.M
  all_goals
   unfold M.pa M.pb M.qa M.qb M.jOf M.halfOf M.least
   repeat (first|rw [if_pos bO]|rw [if_neg bO])
   try rw [Int.sub_zero]
   go_enter Tryz.func105,Tryz.ntmps105
   go_wp2_with (first|(go_at_call 125;refine (weight_calls _ _ _ a1 b1).mono ?_;rintro e w1 ⟨rfl,hb1⟩;obtain ⟨hc1,hf1⟩:=bcell hb1;have hx1:=((HX.out.alloc _).alloc _).below hb1 sO;have hy1:=((HY.out.alloc _).alloc _).below hb1 sO;have HX1:=hI hx1;have HY1:=hI hy1;obtain ⟨⟨f0,f1⟩,g0,g1⟩:=rowX_facts hx1;obtain ⟨⟨f2,f3⟩,g2,g3⟩:=rowX_facts hy1;have lx1:=hx1.lt;have ly1:=hy1.lt;clear hx1 hy1)|(go_at_call 92;refine (part_calls _ _ _ _).mono ?_;rintro e w' ⟨rfl,rfl⟩)|(go_at_call 47;refine (add_calls _ _ _ _).mono ?_;rintro e w' ⟨rfl,rfl⟩))
   go_end0
   refine ⟨rfl,?_,?_,λB hB1 hB2=>?_⟩
   ·apply blk_eq
    ·repeat first|with_reducible exact HX1.out|with_reducible apply Blk.put|with_reducible apply Blk.far (hp:=(by first|exact hne|exact hne.symm))|with_reducible apply Blk.alloc
    ·rfl
   ·apply blk_eq
    ·repeat first|with_reducible exact HY1.out|with_reducible apply Blk.put|with_reducible apply Blk.far (hp:=(by first|exact hne|exact hne.symm))|with_reducible apply Blk.alloc
    ·rfl
   have hw1:=(((Below.refl B w).alloc bO _).alloc sO _).trans (hb1.mono (B':=B) sO)
   repeat first|with_reducible exact hw1|((with_reducible refine Below.setCell ?_ ?_ _);rotate_left;assumption)|((with_reducible refine Below.alloc ?_ ?_ _);rotate_left;(first|omega|(simp;omega)|(simp [World.setCell];omega)))
 ·by_cases c2:0<a.M<;>by_cases c3:0<b.M
  all_goals
   unfold M.pa M.pb M.qa M.qb M.jOf M.halfOf M.least
   repeat (first|rw [if_pos bO]|rw [if_neg bO])
   try rw [Int.sub_zero]
   go_enter Tryz.func105,Tryz.ntmps105
   go_wp2_with (first|(go_at_call 125;refine (weight_calls _ _ _ a1 b1).mono ?_;rintro e w1 ⟨rfl,hb1⟩;obtain ⟨hc1,hf1⟩:=bcell hb1;have hx1:=((HX.out.alloc _).alloc _).below hb1 sO;have hy1:=((HY.out.alloc _).alloc _).below hb1 sO;have HX1:=hI hx1;have HY1:=hI hy1;obtain ⟨⟨f0,f1⟩,g0,g1⟩:=rowX_facts hx1;obtain ⟨⟨f2,f3⟩,g2,g3⟩:=rowX_facts hy1;have lx1:=hx1.lt;have ly1:=hy1.lt;clear hx1 hy1)|(go_at_call 92;refine (part_calls _ _ _ _).mono ?_;rintro e w' ⟨rfl,rfl⟩)|(go_at_call 47;refine (add_calls _ _ _ _).mono ?_;rintro e w' ⟨rfl,rfl⟩))
   go_end0
   refine ⟨rfl,?_,?_,λB hB1 hB2=>?_⟩
   ·apply blk_eq
    ·repeat first|with_reducible exact HX.out|with_reducible apply Blk.put|with_reducible apply Blk.far (hp:=(by first|exact hne|exact hne.symm))|with_reducible apply Blk.alloc
    ·rfl
   ·apply blk_eq
    ·repeat first|with_reducible exact HY.out|with_reducible apply Blk.put|with_reducible apply Blk.far (hp:=(by first|exact hne|exact hne.symm))|with_reducible apply Blk.alloc
    ·rfl
   repeat first|with_reducible exact Below.refl _ _|((with_reducible refine Below.setCell ?_ ?_ _);rotate_left;assumption)|((with_reducible refine Below.alloc ?_ ?_ _);rotate_left;(first|omega|(simp;omega)|(simp [World.setCell];omega)))
theorem rowY_facts {W:World} {b:Nat} {r:M.Row} (h:Blk W b 38 (rowC r)):(W.cell? ⟨b,1,none⟩=some (.int .i64 r.Y)/\W.cell? ⟨b,3,none⟩=some (.int .i64 r.PY))/\W.frozen? ⟨b,1,none⟩=false/\W.frozen? ⟨b,3,none⟩=false:=
 ⟨⟨h.cell 1,h.cell 3⟩,h.free 1,h.free 3⟩
theorem lineY_calls (a b:M.Row) (w:World) (bx bz:Nat) (va vb way dep:Int) (hx:Blk w bx 38 (rowC a)) (hy:Blk w bz 38 (rowC b)) (hne:bx≠bz)
  (a1:0<=a.M/\a.M<=9) (a2:0<=a.R/\a.R<=256) (b1:0<=b.M/\b.M<=9) (b2:0<=b.R/\b.R<=256)
  (h1:-16777216<=va/\va<=16777216) (h2:-16777216<=vb/\vb<=16777216) (h3:1<=dep/\dep<=8192) (h4:-1<=way/\way<=1):
  Calls Tryz.prog 105 #[.pointer (some ⟨bx,1,none⟩),.pointer (some ⟨bz,1,none⟩),.pointer (some ⟨bx,3,none⟩),.pointer (some ⟨bz,3,none⟩),.int .i64 va,.int .i64 vb,.int .i64 way,.int .i64 dep,rowV a,rowV b] w λe w'=>
   e=.returned (.tuple #[])/\Blk w' bx 38 (rowC {a with Y:=M.pa a.Y way dep a.M b.M,PY:=M.qa a.PY ((va-vb)*way) way a.M b.M a.R b.R})
    /\Blk w' bz 38 (rowC {b with Y:=M.pb b.Y way dep a.M b.M,PY:=M.qb b.PY ((va-vb)*way) way a.M b.M a.R b.R})
    /\∀B,B<=bx->B<=bz->Below B w w':=by
 have n1:=M.mul_bd (va-vb) way 33554432 1 bO bO bO bO
 have m1:=M.mOf_bd a.M b.M a1 b1
 have m2:=M.nOf_bd a.M b.M a1 b1
 have n2:=M.mul_bd ((va-vb)*way) (M.mOf a.M b.M) 33554432 81 bO bO bO bO
 have n4:=M.part_bd ((va-vb)*way*M.mOf a.M b.M) (256+b.R) (M.nOf a.M b.M*256)
 have n5:=M.part_bd ((va-vb)*way*M.mOf a.M b.M) (256+a.R) (M.nOf a.M b.M*256)
 have n6:=M.mul_bd (M.part ((va-vb)*way*M.mOf a.M b.M) (256+b.R) (M.nOf a.M b.M*256)) way 72057594037927936 1 bO bO bO bO
 have n7:=M.mul_bd (M.part ((va-vb)*way*M.mOf a.M b.M) (256+a.R) (M.nOf a.M b.M*256)) way 72057594037927936 1 bO bO bO bO
 have n8:=M.mul_bd (-(dep / 2)) way 8192 1 bO bO bO bO
 have n9:=M.mul_bd (dep-dep / 2) way 8192 1 bO bO bO bO
 have n10:=M.mul_bd (-dep) way 8192 1 bO bO bO bO
 have n11:=M.mul_bd dep way 8192 1 bO bO bO bO
 have lx:=hx.lt
 have ly:=hy.lt
 have F1:∀o1 o2,((w.alloc o1).alloc o2).cell? ⟨bx,1,none⟩=some (.int .i64 a.Y):=λo1 o2=>(rowY_facts ((hx.alloc o1).alloc o2)).1.1
 have F2:∀o1 o2,((w.alloc o1).alloc o2).cell? ⟨bz,1,none⟩=some (.int .i64 b.Y):=λo1 o2=>(rowY_facts ((hy.alloc o1).alloc o2)).1.1
 have F3:∀o1 o2,((w.alloc o1).alloc o2).frozen? ⟨bx,1,none⟩=false:=λo1 o2=>(rowY_facts ((hx.alloc o1).alloc o2)).2.1
 have F4:∀o1 o2,((w.alloc o1).alloc o2).frozen? ⟨bz,1,none⟩=false:=λo1 o2=>(rowY_facts ((hy.alloc o1).alloc o2)).2.1
 have F5:∀v o1 o2,(((w.setCell ⟨bx,1,none⟩ v).alloc o1).alloc o2).cell? ⟨bz,1,none⟩=some (.int .i64 b.Y):=λv o1 o2=>(rowY_facts (((hy.far (p:=⟨bx,1,none⟩) hne.symm v).alloc o1).alloc o2)).1.1
 have F6:∀v o1 o2,(((w.setCell ⟨bx,1,none⟩ v).alloc o1).alloc o2).frozen? ⟨bz,1,none⟩=false:=λv o1 o2=>(rowY_facts (((hy.far (p:=⟨bx,1,none⟩) hne.symm v).alloc o1).alloc o2)).2.1
 have HX:=hI hx
 have HY:=hI hy
 clear hx hy
 by_cases c1:0<(va-vb)*way
 ·by_cases c4:b.R<a.R<;>by_cases c2:0<a.M<;>by_cases c3:0<b.M
  all_goals
   unfold M.pa M.pb M.qa M.qb M.jOf M.halfOf M.least
   repeat (first|rw [if_pos bO]|rw [if_neg bO])
   try rw [Int.sub_zero]
   go_enter Tryz.func105,Tryz.ntmps105
   go_wp2_with (first|(go_at_call 125;refine (weight_calls _ _ _ a1 b1).mono ?_;rintro e w1 ⟨rfl,hb1⟩;obtain ⟨hc1,hf1⟩:=bcell hb1;have hx1:=((HX.out.alloc _).alloc _).below hb1 sO;have hy1:=((HY.out.alloc _).alloc _).below hb1 sO;have HX1:=hI hx1;have HY1:=hI hy1;obtain ⟨⟨f0,f1⟩,g0,g1⟩:=rowY_facts hx1;obtain ⟨⟨f2,f3⟩,g2,g3⟩:=rowY_facts hy1;have lx1:=hx1.lt;have ly1:=hy1.lt;clear hx1 hy1)|(go_at_call 92;refine (part_calls _ _ _ _).mono ?_;rintro e w' ⟨rfl,rfl⟩)|(go_at_call 47;refine (add_calls _ _ _ _).mono ?_;rintro e w' ⟨rfl,rfl⟩))
   go_end0
   refine ⟨rfl,?_,?_,λB hB1 hB2=>?_⟩
   ·apply blk_eq
    ·repeat first|with_reducible exact HX1.out|with_reducible apply Blk.put|with_reducible apply Blk.far (hp:=(by first|exact hne|exact hne.symm))|with_reducible apply Blk.alloc
    ·rfl
   ·apply blk_eq
    ·repeat first|with_reducible exact HY1.out|with_reducible apply Blk.put|with_reducible apply Blk.far (hp:=(by first|exact hne|exact hne.symm))|with_reducible apply Blk.alloc
    ·rfl
   have hw1:=(((Below.refl B w).alloc bO _).alloc sO _).trans (hb1.mono (B':=B) sO)
   repeat first|with_reducible exact hw1|((with_reducible refine Below.setCell ?_ ?_ _);rotate_left;assumption)|((with_reducible refine Below.alloc ?_ ?_ _);rotate_left;(first|omega|(simp;omega)|(simp [World.setCell];omega)))
 ·by_cases c2:0<a.M<;>by_cases c3:0<b.M
  all_goals
   unfold M.pa M.pb M.qa M.qb M.jOf M.halfOf M.least
   repeat (first|rw [if_pos bO]|rw [if_neg bO])
   try rw [Int.sub_zero]
   go_enter Tryz.func105,Tryz.ntmps105
   go_wp2_with (first|(go_at_call 125;refine (weight_calls _ _ _ a1 b1).mono ?_;rintro e w1 ⟨rfl,hb1⟩;obtain ⟨hc1,hf1⟩:=bcell hb1;have hx1:=((HX.out.alloc _).alloc _).below hb1 sO;have hy1:=((HY.out.alloc _).alloc _).below hb1 sO;have HX1:=hI hx1;have HY1:=hI hy1;obtain ⟨⟨f0,f1⟩,g0,g1⟩:=rowY_facts hx1;obtain ⟨⟨f2,f3⟩,g2,g3⟩:=rowY_facts hy1;have lx1:=hx1.lt;have ly1:=hy1.lt;clear hx1 hy1)|(go_at_call 92;refine (part_calls _ _ _ _).mono ?_;rintro e w' ⟨rfl,rfl⟩)|(go_at_call 47;refine (add_calls _ _ _ _).mono ?_;rintro e w' ⟨rfl,rfl⟩))
   go_end0
   refine ⟨rfl,?_,?_,λB hB1 hB2=>?_⟩
   ·apply blk_eq
    ·repeat first|with_reducible exact HX.out|with_reducible apply Blk.put|with_reducible apply Blk.far (hp:=(by first|exact hne|exact hne.symm))|with_reducible apply Blk.alloc
    ·rfl
   ·apply blk_eq
    ·repeat first|with_reducible exact HY.out|with_reducible apply Blk.put|with_reducible apply Blk.far (hp:=(by first|exact hne|exact hne.symm))|with_reducible apply Blk.alloc
    ·rfl
   repeat first|with_reducible exact Below.refl _ _|((with_reducible refine Below.setCell ?_ ?_ _);rotate_left;assumption)|((with_reducible refine Below.alloc ?_ ?_ _);rotate_left;(first|omega|(simp;omega)|(simp [World.setCell];omega)))
theorem good_yes (r:M.Row) (w:World) (h:RowOk r) (hb:M.body r=true):Calls Tryz.prog 104 #[rowV r] w λe w'=>e=.returned (.bool true)/\Below w.heap.size w w':=by
 rw [←hb];exact good_calls r w h
theorem good_no (r:M.Row) (w:World) (h:RowOk r) (hb:M.body r=false):Calls Tryz.prog 104 #[rowV r] w λe w'=>e=.returned (.bool false)/\Below w.heap.size w w':=by
 rw [←hb];exact good_calls r w h
theorem mid_of_body {r:M.Row} (h:M.body r=true):RowMid r:=by
 simp only [M.body,M.number,Bool.and_eq_true,decide_eq_true_eq] at h
 unfold RowMid
 omega
theorem body_facts {r:M.Row} (h:M.body r=true):((-1048576<=r.X/\r.X<=1048576)/\(-1048576<=r.Y/\r.Y<=1048576)/\(-16777216<=r.PX/\r.PX<=16777216)/\(-16777216<=r.PY/\r.PY<=16777216))/\1<=r.W/\r.W<=4096/\1<=r.H/\r.H<=4096/\(0<=r.M/\r.M<=9)/\(0<=r.R/\r.R<=256)/\(0<r.M\/r.PX=0/\r.PY=0):=by
 simp only [M.body,M.number,Bool.and_eq_true,decide_eq_true_eq] at h
 omega
theorem meet_bad1 (a b:M.Row) (w:World) (ha:RowOk a) (hb:RowOk b) (h1:M.body a=false):
  Calls Tryz.prog 80 #[rowV a,rowV b] w λe w'=>e=.returned (.tuple #[rowV a,rowV b,.bool false])/\Below w.heap.size w w':=by
 have Ha:=hI h1
 clear h1
 go_enter Tryz.func80,Tryz.ntmps80
 go_wp2_with fail
 refine (depth_any _ _ _).mono ?_
 rintro e w1 ⟨⟨d1,d2,rfl⟩,hb1⟩
 obtain ⟨hc1,hf1⟩:=bcell hb1
 have hz1:=hb1.size
 simp at hz1
 have pw10:w.heap.size<w1.heap.size:=by omega
 have pw11:w.heap.size+1<w1.heap.size:=by omega
 have pw12:w.heap.size+1+1<w1.heap.size:=by omega
 have pw13:w.heap.size+1+1+1<w1.heap.size:=by omega
 go_wp2_with fail
 refine (good_no a _ ha Ha.out).mono ?_
 rintro e w2 ⟨rfl,hb2⟩
 obtain ⟨hc2,hf2⟩:=bcell hb2
 have hz2:=hb2.size
 have pw20:w.heap.size<w2.heap.size:=by omega
 have pw21:w.heap.size+1<w2.heap.size:=by omega
 have pw22:w.heap.size+1+1<w2.heap.size:=by omega
 have pw23:w.heap.size+1+1+1<w2.heap.size:=by omega
 go_wp2_with fail
 go_region
 go_wp2
 refine bodyPost_ret (v:=.tuple #[rowV a,rowV b,.bool false]) ?_ rfl ⟨rfl,?_⟩
 ·simp only [results,Tryz.results80]
  go_simp
 ·have k:=(((((Below.refl _ w).alloc lR _).alloc sS _).alloc sO _).alloc sO _).trans (hb1.mono sO)|>.trans (hb2.mono bO)
  refine Below.drew ?_
  repeat first|with_reducible exact k|((with_reducible refine Below.setCell ?_ ?_ _);rotate_left;(first|omega|(simp;omega)))
theorem meet_bad2 (a b:M.Row) (w:World) (ha:RowOk a) (hb:RowOk b) (h1:M.body a=true) (h2:M.body b=false):
  Calls Tryz.prog 80 #[rowV a,rowV b] w λe w'=>e=.returned (.tuple #[rowV a,rowV b,.bool false])/\Below w.heap.size w w':=by
 have Ha:=hI h1
 clear h1
 have Hb:=hI h2
 clear h2
 go_enter Tryz.func80,Tryz.ntmps80
 go_wp2_with fail
 refine (depth_any _ _ _).mono ?_
 rintro e w1 ⟨⟨d1,d2,rfl⟩,hb1⟩
 obtain ⟨hc1,hf1⟩:=bcell hb1
 have hz1:=hb1.size
 simp at hz1
 have pw10:w.heap.size<w1.heap.size:=by omega
 have pw11:w.heap.size+1<w1.heap.size:=by omega
 have pw12:w.heap.size+1+1<w1.heap.size:=by omega
 have pw13:w.heap.size+1+1+1<w1.heap.size:=by omega
 go_wp2_with fail
 refine (good_yes a _ ha Ha.out).mono ?_
 rintro e w2 ⟨rfl,hb2⟩
 obtain ⟨hc2,hf2⟩:=bcell hb2
 have hz2:=hb2.size
 have pw20:w.heap.size<w2.heap.size:=by omega
 have pw21:w.heap.size+1<w2.heap.size:=by omega
 have pw22:w.heap.size+1+1<w2.heap.size:=by omega
 have pw23:w.heap.size+1+1+1<w2.heap.size:=by omega
 go_wp2_with fail
 refine (good_no b _ hb Hb.out).mono ?_
 rintro e w3 ⟨rfl,hb3⟩
 obtain ⟨hc3,hf3⟩:=bcell hb3
 have hz3:=hb3.size
 have pw30:w.heap.size<w3.heap.size:=by omega
 have pw31:w.heap.size+1<w3.heap.size:=by omega
 have pw32:w.heap.size+1+1<w3.heap.size:=by omega
 have pw33:w.heap.size+1+1+1<w3.heap.size:=by omega
 go_wp2_with fail
 go_region
 go_wp2
 refine bodyPost_ret (v:=.tuple #[rowV a,rowV b,.bool false]) ?_ rfl ⟨rfl,?_⟩
 ·simp only [results,Tryz.results80]
  go_simp
 ·have k:=(((((Below.refl _ w).alloc lR _).alloc sS _).alloc sO _).alloc sO _).trans (hb1.mono sO)|>.trans (hb2.mono bO)|>.trans (hb3.mono bO)
  refine Below.drew ?_
  repeat first|with_reducible exact k|((with_reducible refine Below.setCell ?_ ?_ _);rotate_left;(first|omega|(simp;omega)))
theorem meet_bad3 (a b:M.Row) (w:World) (ha:RowOk a) (hb:RowOk b) (h1:M.body a=true) (h2:M.body b=true) (h3:M.depth a.W b.W a.X b.X<1):
  Calls Tryz.prog 80 #[rowV a,rowV b] w λe w'=>e=.returned (.tuple #[rowV a,rowV b,.bool false])/\Below w.heap.size w w':=by
 have Ha:=hI h1
 clear h1
 have Hb:=hI h2
 clear h2
 go_enter Tryz.func80,Tryz.ntmps80
 go_wp2_with fail
 refine (depth_calls a b _ (mid_of_body Ha.out) (mid_of_body Hb.out)).mono ?_
 rintro e w1 ⟨rfl,hb1⟩
 obtain ⟨hc1,hf1⟩:=bcell hb1
 have hz1:=hb1.size
 simp at hz1
 have pw10:w.heap.size<w1.heap.size:=by omega
 have pw11:w.heap.size+1<w1.heap.size:=by omega
 have pw12:w.heap.size+1+1<w1.heap.size:=by omega
 have pw13:w.heap.size+1+1+1<w1.heap.size:=by omega
 go_wp2_with fail
 refine (good_yes a _ ha Ha.out).mono ?_
 rintro e w2 ⟨rfl,hb2⟩
 obtain ⟨hc2,hf2⟩:=bcell hb2
 have hz2:=hb2.size
 have pw20:w.heap.size<w2.heap.size:=by omega
 have pw21:w.heap.size+1<w2.heap.size:=by omega
 have pw22:w.heap.size+1+1<w2.heap.size:=by omega
 have pw23:w.heap.size+1+1+1<w2.heap.size:=by omega
 go_wp2_with fail
 refine (good_yes b _ hb Hb.out).mono ?_
 rintro e w3 ⟨rfl,hb3⟩
 obtain ⟨hc3,hf3⟩:=bcell hb3
 have hz3:=hb3.size
 have pw30:w.heap.size<w3.heap.size:=by omega
 have pw31:w.heap.size+1<w3.heap.size:=by omega
 have pw32:w.heap.size+1+1<w3.heap.size:=by omega
 have pw33:w.heap.size+1+1+1<w3.heap.size:=by omega
 go_wp2_with fail
 go_region
 go_wp2
 refine bodyPost_ret (v:=.tuple #[rowV a,rowV b,.bool false]) ?_ rfl ⟨rfl,?_⟩
 ·simp only [results,Tryz.results80]
  go_simp
 ·have k:=(((((Below.refl _ w).alloc lR _).alloc sS _).alloc sO _).alloc sO _).trans (hb1.mono sO)|>.trans (hb2.mono bO)|>.trans (hb3.mono bO)
  refine Below.drew ?_
  repeat first|with_reducible exact k|((with_reducible refine Below.setCell ?_ ?_ _);rotate_left;(first|omega|(simp;omega)))
theorem meet_bad4 (a b:M.Row) (w:World) (ha:RowOk a) (hb:RowOk b) (h1:M.body a=true) (h2:M.body b=true) (h3:1<=M.depth a.W b.W a.X b.X) (h4:M.depth a.H b.H a.Y b.Y<1):
  Calls Tryz.prog 80 #[rowV a,rowV b] w λe w'=>e=.returned (.tuple #[rowV a,rowV b,.bool false])/\Below w.heap.size w w':=by
 have Ha:=hI h1
 clear h1
 have Hb:=hI h2
 clear h2
 go_enter Tryz.func80,Tryz.ntmps80
 go_wp2_with fail
 refine (depth_calls a b _ (mid_of_body Ha.out) (mid_of_body Hb.out)).mono ?_
 rintro e w1 ⟨rfl,hb1⟩
 obtain ⟨hc1,hf1⟩:=bcell hb1
 have hz1:=hb1.size
 simp at hz1
 have pw10:w.heap.size<w1.heap.size:=by omega
 have pw11:w.heap.size+1<w1.heap.size:=by omega
 have pw12:w.heap.size+1+1<w1.heap.size:=by omega
 have pw13:w.heap.size+1+1+1<w1.heap.size:=by omega
 go_wp2_with fail
 refine (good_yes a _ ha Ha.out).mono ?_
 rintro e w2 ⟨rfl,hb2⟩
 obtain ⟨hc2,hf2⟩:=bcell hb2
 have hz2:=hb2.size
 have pw20:w.heap.size<w2.heap.size:=by omega
 have pw21:w.heap.size+1<w2.heap.size:=by omega
 have pw22:w.heap.size+1+1<w2.heap.size:=by omega
 have pw23:w.heap.size+1+1+1<w2.heap.size:=by omega
 go_wp2_with fail
 refine (good_yes b _ hb Hb.out).mono ?_
 rintro e w3 ⟨rfl,hb3⟩
 obtain ⟨hc3,hf3⟩:=bcell hb3
 have hz3:=hb3.size
 have pw30:w.heap.size<w3.heap.size:=by omega
 have pw31:w.heap.size+1<w3.heap.size:=by omega
 have pw32:w.heap.size+1+1<w3.heap.size:=by omega
 have pw33:w.heap.size+1+1+1<w3.heap.size:=by omega
 go_wp2_with fail
 go_region
 go_wp2
 refine bodyPost_ret (v:=.tuple #[rowV a,rowV b,.bool false]) ?_ rfl ⟨rfl,?_⟩
 ·simp only [results,Tryz.results80]
  go_simp
 ·have k:=(((((Below.refl _ w).alloc lR _).alloc sS _).alloc sO _).alloc sO _).trans (hb1.mono sO)|>.trans (hb2.mono bO)|>.trans (hb3.mono bO)
  refine Below.drew ?_
  repeat first|with_reducible exact k|((with_reducible refine Below.setCell ?_ ?_ _);rotate_left;(first|omega|(simp;omega)))
theorem meet_fixed (a b:M.Row) (w:World) (ha:RowOk a) (hb:RowOk b) (h1:M.body a=true) (h2:M.body b=true) (h3:1<=M.depth a.W b.W a.X b.X) (h4:1<=M.depth a.H b.H a.Y b.Y) (h5:a.M=0) (h6:b.M=0):
  Calls Tryz.prog 80 #[rowV a,rowV b] w λe w'=>e=.returned (.tuple #[rowV a,rowV b,.bool true])/\Below w.heap.size w w':=by
 have g5:0<=a.M/\a.M<=0:=by omega
 have g6:0<=b.M/\b.M<=0:=by omega
 clear h5 h6
 have Ha:=hI h1
 clear h1
 have Hb:=hI h2
 clear h2
 go_enter Tryz.func80,Tryz.ntmps80
 go_wp2_with fail
 refine (depth_calls a b _ (mid_of_body Ha.out) (mid_of_body Hb.out)).mono ?_
 rintro e w1 ⟨rfl,hb1⟩
 obtain ⟨hc1,hf1⟩:=bcell hb1
 have hz1:=hb1.size
 simp at hz1
 have pw10:w.heap.size<w1.heap.size:=by omega
 have pw11:w.heap.size+1<w1.heap.size:=by omega
 have pw12:w.heap.size+1+1<w1.heap.size:=by omega
 have pw13:w.heap.size+1+1+1<w1.heap.size:=by omega
 go_wp2_with fail
 refine (good_yes a _ ha Ha.out).mono ?_
 rintro e w2 ⟨rfl,hb2⟩
 obtain ⟨hc2,hf2⟩:=bcell hb2
 have hz2:=hb2.size
 have pw20:w.heap.size<w2.heap.size:=by omega
 have pw21:w.heap.size+1<w2.heap.size:=by omega
 have pw22:w.heap.size+1+1<w2.heap.size:=by omega
 have pw23:w.heap.size+1+1+1<w2.heap.size:=by omega
 go_wp2_with fail
 refine (good_yes b _ hb Hb.out).mono ?_
 rintro e w3 ⟨rfl,hb3⟩
 obtain ⟨hc3,hf3⟩:=bcell hb3
 have hz3:=hb3.size
 have pw30:w.heap.size<w3.heap.size:=by omega
 have pw31:w.heap.size+1<w3.heap.size:=by omega
 have pw32:w.heap.size+1+1<w3.heap.size:=by omega
 have pw33:w.heap.size+1+1+1<w3.heap.size:=by omega
 go_wp2_with fail
 go_region
 go_wp2
 refine bodyPost_ret (v:=.tuple #[rowV a,rowV b,.bool true]) ?_ rfl ⟨rfl,?_⟩
 ·simp only [results,Tryz.results80]
  go_simp
 ·have k:=(((((Below.refl _ w).alloc lR _).alloc sS _).alloc sO _).alloc sO _).trans (hb1.mono sO)|>.trans (hb2.mono bO)|>.trans (hb3.mono bO)
  refine Below.drew ?_
  repeat first|with_reducible exact k|((with_reducible refine Below.setCell ?_ ?_ _);rotate_left;(first|omega|(simp;omega)))
def TwoRows (a b:M.Row) (w0:World) (p q:Value) (W:World):Prop:=
 ∃bx bz,p=.pointer (some ⟨bx,0,none⟩)/\q=.pointer (some ⟨bz,0,none⟩)/\bx≠bz/\Blk W bx 38 (rowC a)/\Blk W bz 38 (rowC b)/\w0.heap.size<=bx/\w0.heap.size<=bz/\Below w0.heap.size w0 W
theorem two_rows1 (a b:M.Row) (w0:World):TwoRows a b w0 (.pointer (some ⟨w0.heap.size,0,none⟩)) (.pointer (some ⟨w0.heap.size+1,0,none⟩)) ((w0.alloc (.cells (rowC a) 38)).alloc (.cells (rowC b) 38)).drew:=
 ⟨_,_,rfl,rfl,by omega,((Blk.new w0 _ _).alloc _).drew,by have h:=Blk.new (w0.alloc (.cells (rowC a) 38)) 38 (rowC b);simp at h;exact h,by omega,by omega,(((Below.refl _ w0).alloc lR _).alloc sS _).drew⟩
theorem two_rows2 (a b:M.Row) (w0:World):TwoRows a b w0 (.pointer (some ⟨w0.heap.size+1,0,none⟩)) (.pointer (some ⟨w0.heap.size,0,none⟩)) ((w0.alloc (.cells (rowC b) 38)).alloc (.cells (rowC a) 38)).drew:=
 ⟨_,_,rfl,rfl,by omega,by have h:=Blk.new (w0.alloc (.cells (rowC b) 38)) 38 (rowC a);simp at h;exact h,((Blk.new w0 _ _).alloc _).drew,by omega,by omega,(((Below.refl _ w0).alloc lR _).alloc sS _).drew⟩
theorem part1_bd (n b:Int) (h:-16777216<=n/\n<=16777216):-16777216<=M.part n 1 b/\M.part n 1 b<=16777216:=by
 unfold M.part
 split
 ·omega
 ·rw [M.within_id n _ bO bO,M.within_id 1 _ bO bO,Int.mul_one]
  exact M.tdiv_bd _ _ _ bO bO
theorem depth_hi {a b:M.Row} (ha:M.body a=true) (hb:M.body b=true):M.depth a.W b.W a.X b.X<=8192/\M.depth a.H b.H a.Y b.Y<=8192:=by
 have fa:=body_facts ha
 have fb:=body_facts hb
 unfold M.depth M.abs
 constructor<;>split<;>omega
theorem row_cells {W:World} {b:Nat} {r:M.Row} (h:Blk W b 38 (rowC r)):W.cell? ⟨b,0,none⟩=some (.int .i64 r.X)/\W.cell? ⟨b,1,none⟩=some (.int .i64 r.Y)/\W.cell? ⟨b,2,none⟩=some (.int .i64 r.PX)/\W.cell? ⟨b,3,none⟩=some (.int .i64 r.PY)/\W.cell? ⟨b,4,none⟩=some (.int .i64 r.W)/\W.cell? ⟨b,5,none⟩=some (.int .i64 r.H)/\W.cell? ⟨b,6,none⟩=some (.int .i64 r.M)/\W.cell? ⟨b,7,none⟩=some (.int .i64 r.R):=
 ⟨h.cell 0,h.cell 1,h.cell 2,h.cell 3,h.cell 4,h.cell 5,h.cell 6,h.cell 7⟩
theorem meet_move1 (a b:M.Row) (w:World) (ha:RowOk a) (hb:RowOk b) (h1:M.body a=true) (h2:M.body b=true) (h3:1<=M.depth a.W b.W a.X b.X) (h4:1<=M.depth a.H b.H a.Y b.Y) (h5:0<a.M):
  Calls Tryz.prog 80 #[rowV a,rowV b] w λe w'=>e=.returned (.tuple #[rowV (M.meetR a b).1,rowV (M.meetR a b).2,.bool true])/\Below w.heap.size w w':=by
 have Ha:=hI h1
 clear h1
 have Hb:=hI h2
 clear h2
 go_enter Tryz.func80,Tryz.ntmps80
 go_wp2_with fail
 refine (depth_calls a b _ (mid_of_body Ha.out) (mid_of_body Hb.out)).mono ?_
 rintro e w1 ⟨rfl,hb1⟩
 obtain ⟨hc1,hf1⟩:=bcell hb1
 have hz1:=hb1.size
 simp at hz1
 have pw10:w.heap.size<w1.heap.size:=by omega
 have pw11:w.heap.size+1<w1.heap.size:=by omega
 have pw12:w.heap.size+1+1<w1.heap.size:=by omega
 have pw13:w.heap.size+1+1+1<w1.heap.size:=by omega
 go_wp2_with fail
 refine (good_yes a _ ha Ha.out).mono ?_
 rintro e w2 ⟨rfl,hb2⟩
 obtain ⟨hc2,hf2⟩:=bcell hb2
 have hz2:=hb2.size
 have pw20:w.heap.size<w2.heap.size:=by omega
 have pw21:w.heap.size+1<w2.heap.size:=by omega
 have pw22:w.heap.size+1+1<w2.heap.size:=by omega
 have pw23:w.heap.size+1+1+1<w2.heap.size:=by omega
 go_wp2_with fail
 refine (good_yes b _ hb Hb.out).mono ?_
 rintro e w3 ⟨rfl,hb3⟩
 obtain ⟨hc3,hf3⟩:=bcell hb3
 have hz3:=hb3.size
 have pw30:w.heap.size<w3.heap.size:=by omega
 have pw31:w.heap.size+1<w3.heap.size:=by omega
 have pw32:w.heap.size+1+1<w3.heap.size:=by omega
 have pw33:w.heap.size+1+1+1<w3.heap.size:=by omega
 go_upto_region 6 with fail
 go_cut [9,10] (λp q W=>TwoRows a b w3 p q W)
 case first=>
  go_region
  all_goals
   go_wp2_with fail
   go_meet
   first|with_reducible exact two_rows1 a b w3|with_reducible exact two_rows2 a b w3
 case rest=>
  obtain ⟨bx,bz,rfl,rfl,hne,hx4,hy4,lx,lz,hb4⟩:=hcut
  obtain ⟨hc4,hf4⟩:=bcell hb4
  have hz4:=hb4.size
  have pwc0:w.heap.size<wc.heap.size:=by omega
  have pwc1:w.heap.size+1<wc.heap.size:=by omega
  have pwc2:w.heap.size+1+1<wc.heap.size:=by omega
  have pwc3:w.heap.size+1+1+1<wc.heap.size:=by omega
  have lx4:=hx4.lt
  have ly4:=hy4.lt
  have HX4:=hI hx4
  have HY4:=hI hy4
  clear hx4 hy4
  go_wp2_with fail
  refine (speed_calls a _).mono ?_
  rintro e w5 ⟨rfl,hb5⟩
  obtain ⟨hc5,hf5⟩:=bcell hb5
  have hz5:=hb5.size
  have pw50:w.heap.size<w5.heap.size:=by omega
  have pw51:w.heap.size+1<w5.heap.size:=by omega
  have pw52:w.heap.size+1+1<w5.heap.size:=by omega
  have pw53:w.heap.size+1+1+1<w5.heap.size:=by omega
  go_wp2_with fail
  refine (speed_calls b _).mono ?_
  rintro e w6 ⟨rfl,hb6⟩
  obtain ⟨hc6,hf6⟩:=bcell hb6
  have hz6:=hb6.size
  have pw60:w.heap.size<w6.heap.size:=by omega
  have pw61:w.heap.size+1<w6.heap.size:=by omega
  have pw62:w.heap.size+1+1<w6.heap.size:=by omega
  have pw63:w.heap.size+1+1+1<w6.heap.size:=by omega
  have hx6:=(HX4.out.below hb5 bO).below hb6 bO
  have hy6:=(HY4.out.below hb5 bO).below hb6 bO
  have HX6:=hI hx6
  have HY6:=hI hy6
  clear hx6 hy6
  obtain ⟨⟨fa1,fa2,fa3,fa4⟩,fa5,fa6,fa7,fa8,fa9,fa10,fa11⟩:=body_facts Ha.out
  obtain ⟨⟨fb1,fb2,fb3,fb4⟩,fb5,fb6,fb7,fb8,fb9,fb10,fb11⟩:=body_facts Hb.out
  have dh:=depth_hi Ha.out Hb.out
  clear fa11 fb11
  have K:Below w.heap.size w w6:=(((((Below.refl _ w).alloc lR _).alloc sS _).alloc sO _).alloc sO _).trans (hb1.mono sO)|>.trans (hb2.mono bO)|>.trans (hb3.mono bO)|>.trans (hb4.mono bO)|>.trans (hb5.mono bO)|>.trans (hb6.mono bO)
  have HK:=hI K
  clear K
  by_cases h7:M.depth a.W b.W a.X b.X<M.depth a.H b.H a.Y b.Y
  ·by_cases h8:b.X<a.X
   ·have EM:M.meetR a b=({a with X:=M.pa a.X (-1) (M.depth a.W b.W a.X b.X) a.M b.M,PX:=M.qa a.PX ((M.part a.PX 1 a.M-M.part b.PX 1 b.M)*(-1)) (-1) a.M b.M a.R b.R},{b with X:=M.pb b.X (-1) (M.depth a.W b.W a.X b.X) a.M b.M,PX:=M.qb b.PX ((M.part a.PX 1 a.M-M.part b.PX 1 b.M)*(-1)) (-1) a.M b.M a.R b.R}):=by unfold M.meetR M.meetX M.meetY M.wayOf;rw [if_pos h7,if_pos h8]
    have HM:=hI EM
    clear EM
    go_wp2_with fail
    refine (lineX_calls a b _ bx bz _ _ _ _ HX6.out HY6.out hne fa9 fa10 fb9 fb10 (part1_bd _ _ fa3) (part1_bd _ _ fb3) bO bO).mono ?_
    rintro e w7 ⟨rfl,hx7,hy7,hb7⟩
    have hb7:=hb7 w3.heap.size lx lz
    have hz7:=hb7.size
    have hc7:∀b o,b<w3.heap.size->w7.cell? ⟨b,o,none⟩=w6.cell? ⟨b,o,none⟩:=λb o h=>hb7.cell (p:=⟨b,o,none⟩) h
    have hf7:∀b o,b<w3.heap.size->w7.frozen? ⟨b,o,none⟩=w6.frozen? ⟨b,o,none⟩:=λb o h=>hb7.frozen (p:=⟨b,o,none⟩) h
    obtain ⟨x0,x1,x2,x3,x4,x5,x6,x7⟩:=row_cells hx7
    obtain ⟨y0,y1,y2,y3,y4,y5,y6,y7⟩:=row_cells hy7
    clear hx7 hy7
    have nx2:w.heap.size+1+1≠bx:=by omega
    have nx3:w.heap.size+1+1+1≠bx:=by omega
    have nz2:w.heap.size+1+1≠bz:=by omega
    have nz3:w.heap.size+1+1+1≠bz:=by omega
    go_wp2_with fail
    go_region
    go_wp2
    refine bodyPost_ret (v:=.tuple #[rowV {a with X:=M.pa a.X (-1) (M.depth a.W b.W a.X b.X) a.M b.M,PX:=M.qa a.PX ((M.part a.PX 1 a.M-M.part b.PX 1 b.M)*(-1)) (-1) a.M b.M a.R b.R},rowV {b with X:=M.pb b.X (-1) (M.depth a.W b.W a.X b.X) a.M b.M,PX:=M.qb b.PX ((M.part a.PX 1 a.M-M.part b.PX 1 b.M)*(-1)) (-1) a.M b.M a.R b.R},.bool true]) ?_ rfl ⟨by rw [HM.out],?_⟩
    ·simp only [results,Tryz.results80]
     go_simp
    ·have k:=HK.out.trans (hb7.mono bO)
     refine Below.drew ?_
     repeat first|with_reducible exact k|((with_reducible refine Below.setCell ?_ ?_ _);rotate_left;(first|omega|(simp;omega)))
   ·have EM:M.meetR a b=({a with X:=M.pa a.X 1 (M.depth a.W b.W a.X b.X) a.M b.M,PX:=M.qa a.PX ((M.part a.PX 1 a.M-M.part b.PX 1 b.M)*1) 1 a.M b.M a.R b.R},{b with X:=M.pb b.X 1 (M.depth a.W b.W a.X b.X) a.M b.M,PX:=M.qb b.PX ((M.part a.PX 1 a.M-M.part b.PX 1 b.M)*1) 1 a.M b.M a.R b.R}):=by unfold M.meetR M.meetX M.meetY M.wayOf;rw [if_pos h7,if_neg h8]
    have HM:=hI EM
    clear EM
    go_wp2_with fail
    refine (lineX_calls a b _ bx bz _ _ _ _ HX6.out HY6.out hne fa9 fa10 fb9 fb10 (part1_bd _ _ fa3) (part1_bd _ _ fb3) bO bO).mono ?_
    rintro e w7 ⟨rfl,hx7,hy7,hb7⟩
    have hb7:=hb7 w3.heap.size lx lz
    have hz7:=hb7.size
    have hc7:∀b o,b<w3.heap.size->w7.cell? ⟨b,o,none⟩=w6.cell? ⟨b,o,none⟩:=λb o h=>hb7.cell (p:=⟨b,o,none⟩) h
    have hf7:∀b o,b<w3.heap.size->w7.frozen? ⟨b,o,none⟩=w6.frozen? ⟨b,o,none⟩:=λb o h=>hb7.frozen (p:=⟨b,o,none⟩) h
    obtain ⟨x0,x1,x2,x3,x4,x5,x6,x7⟩:=row_cells hx7
    obtain ⟨y0,y1,y2,y3,y4,y5,y6,y7⟩:=row_cells hy7
    clear hx7 hy7
    have nx2:w.heap.size+1+1≠bx:=by omega
    have nx3:w.heap.size+1+1+1≠bx:=by omega
    have nz2:w.heap.size+1+1≠bz:=by omega
    have nz3:w.heap.size+1+1+1≠bz:=by omega
    go_wp2_with fail
    go_region
    go_wp2
    refine bodyPost_ret (v:=.tuple #[rowV {a with X:=M.pa a.X 1 (M.depth a.W b.W a.X b.X) a.M b.M,PX:=M.qa a.PX ((M.part a.PX 1 a.M-M.part b.PX 1 b.M)*1) 1 a.M b.M a.R b.R},rowV {b with X:=M.pb b.X 1 (M.depth a.W b.W a.X b.X) a.M b.M,PX:=M.qb b.PX ((M.part a.PX 1 a.M-M.part b.PX 1 b.M)*1) 1 a.M b.M a.R b.R},.bool true]) ?_ rfl ⟨by rw [HM.out],?_⟩
    ·simp only [results,Tryz.results80]
     go_simp
    ·have k:=HK.out.trans (hb7.mono bO)
     refine Below.drew ?_
     repeat first|with_reducible exact k|((with_reducible refine Below.setCell ?_ ?_ _);rotate_left;(first|omega|(simp;omega)))
  ·by_cases h8:b.Y<a.Y
   ·have EM:M.meetR a b=({a with Y:=M.pa a.Y (-1) (M.depth a.H b.H a.Y b.Y) a.M b.M,PY:=M.qa a.PY ((M.part a.PY 1 a.M-M.part b.PY 1 b.M)*(-1)) (-1) a.M b.M a.R b.R},{b with Y:=M.pb b.Y (-1) (M.depth a.H b.H a.Y b.Y) a.M b.M,PY:=M.qb b.PY ((M.part a.PY 1 a.M-M.part b.PY 1 b.M)*(-1)) (-1) a.M b.M a.R b.R}):=by unfold M.meetR M.meetX M.meetY M.wayOf;rw [if_neg h7,if_pos h8]
    have HM:=hI EM
    clear EM
    go_wp2_with fail
    refine (lineY_calls a b _ bx bz _ _ _ _ HX6.out HY6.out hne fa9 fa10 fb9 fb10 (part1_bd _ _ fa4) (part1_bd _ _ fb4) bO bO).mono ?_
    rintro e w7 ⟨rfl,hx7,hy7,hb7⟩
    have hb7:=hb7 w3.heap.size lx lz
    have hz7:=hb7.size
    have hc7:∀b o,b<w3.heap.size->w7.cell? ⟨b,o,none⟩=w6.cell? ⟨b,o,none⟩:=λb o h=>hb7.cell (p:=⟨b,o,none⟩) h
    have hf7:∀b o,b<w3.heap.size->w7.frozen? ⟨b,o,none⟩=w6.frozen? ⟨b,o,none⟩:=λb o h=>hb7.frozen (p:=⟨b,o,none⟩) h
    obtain ⟨x0,x1,x2,x3,x4,x5,x6,x7⟩:=row_cells hx7
    obtain ⟨y0,y1,y2,y3,y4,y5,y6,y7⟩:=row_cells hy7
    clear hx7 hy7
    have nx2:w.heap.size+1+1≠bx:=by omega
    have nx3:w.heap.size+1+1+1≠bx:=by omega
    have nz2:w.heap.size+1+1≠bz:=by omega
    have nz3:w.heap.size+1+1+1≠bz:=by omega
    go_wp2_with fail
    go_region
    go_wp2
    refine bodyPost_ret (v:=.tuple #[rowV {a with Y:=M.pa a.Y (-1) (M.depth a.H b.H a.Y b.Y) a.M b.M,PY:=M.qa a.PY ((M.part a.PY 1 a.M-M.part b.PY 1 b.M)*(-1)) (-1) a.M b.M a.R b.R},rowV {b with Y:=M.pb b.Y (-1) (M.depth a.H b.H a.Y b.Y) a.M b.M,PY:=M.qb b.PY ((M.part a.PY 1 a.M-M.part b.PY 1 b.M)*(-1)) (-1) a.M b.M a.R b.R},.bool true]) ?_ rfl ⟨by rw [HM.out],?_⟩
    ·simp only [results,Tryz.results80]
     go_simp
    ·have k:=HK.out.trans (hb7.mono bO)
     refine Below.drew ?_
     repeat first|with_reducible exact k|((with_reducible refine Below.setCell ?_ ?_ _);rotate_left;(first|omega|(simp;omega)))
   ·have EM:M.meetR a b=({a with Y:=M.pa a.Y 1 (M.depth a.H b.H a.Y b.Y) a.M b.M,PY:=M.qa a.PY ((M.part a.PY 1 a.M-M.part b.PY 1 b.M)*1) 1 a.M b.M a.R b.R},{b with Y:=M.pb b.Y 1 (M.depth a.H b.H a.Y b.Y) a.M b.M,PY:=M.qb b.PY ((M.part a.PY 1 a.M-M.part b.PY 1 b.M)*1) 1 a.M b.M a.R b.R}):=by unfold M.meetR M.meetX M.meetY M.wayOf;rw [if_neg h7,if_neg h8]
    have HM:=hI EM
    clear EM
    go_wp2_with fail
    refine (lineY_calls a b _ bx bz _ _ _ _ HX6.out HY6.out hne fa9 fa10 fb9 fb10 (part1_bd _ _ fa4) (part1_bd _ _ fb4) bO bO).mono ?_
    rintro e w7 ⟨rfl,hx7,hy7,hb7⟩
    have hb7:=hb7 w3.heap.size lx lz
    have hz7:=hb7.size
    have hc7:∀b o,b<w3.heap.size->w7.cell? ⟨b,o,none⟩=w6.cell? ⟨b,o,none⟩:=λb o h=>hb7.cell (p:=⟨b,o,none⟩) h
    have hf7:∀b o,b<w3.heap.size->w7.frozen? ⟨b,o,none⟩=w6.frozen? ⟨b,o,none⟩:=λb o h=>hb7.frozen (p:=⟨b,o,none⟩) h
    obtain ⟨x0,x1,x2,x3,x4,x5,x6,x7⟩:=row_cells hx7
    obtain ⟨y0,y1,y2,y3,y4,y5,y6,y7⟩:=row_cells hy7
    clear hx7 hy7
    have nx2:w.heap.size+1+1≠bx:=by omega
    have nx3:w.heap.size+1+1+1≠bx:=by omega
    have nz2:w.heap.size+1+1≠bz:=by omega
    have nz3:w.heap.size+1+1+1≠bz:=by omega
    go_wp2_with fail
    go_region
    go_wp2
    refine bodyPost_ret (v:=.tuple #[rowV {a with Y:=M.pa a.Y 1 (M.depth a.H b.H a.Y b.Y) a.M b.M,PY:=M.qa a.PY ((M.part a.PY 1 a.M-M.part b.PY 1 b.M)*1) 1 a.M b.M a.R b.R},rowV {b with Y:=M.pb b.Y 1 (M.depth a.H b.H a.Y b.Y) a.M b.M,PY:=M.qb b.PY ((M.part a.PY 1 a.M-M.part b.PY 1 b.M)*1) 1 a.M b.M a.R b.R},.bool true]) ?_ rfl ⟨by rw [HM.out],?_⟩
    ·simp only [results,Tryz.results80]
     go_simp
    ·have k:=HK.out.trans (hb7.mono bO)
     refine Below.drew ?_
     repeat first|with_reducible exact k|((with_reducible refine Below.setCell ?_ ?_ _);rotate_left;(first|omega|(simp;omega)))
theorem meet_move2 (a b:M.Row) (w:World) (ha:RowOk a) (hb:RowOk b) (h1:M.body a=true) (h2:M.body b=true) (h3:1<=M.depth a.W b.W a.X b.X) (h4:1<=M.depth a.H b.H a.Y b.Y) (h5:0<=a.M/\a.M<=0) (h6:0<b.M):
  Calls Tryz.prog 80 #[rowV a,rowV b] w λe w'=>e=.returned (.tuple #[rowV (M.meetR a b).1,rowV (M.meetR a b).2,.bool true])/\Below w.heap.size w w':=by
 have e5:(a.M==0)=true:=by simp;omega
 have e6:(b.M==0)=false:=by simp;omega
 have Ha:=hI h1
 clear h1
 have Hb:=hI h2
 clear h2
 go_enter Tryz.func80,Tryz.ntmps80
 go_wp2_with fail
 refine (depth_calls a b _ (mid_of_body Ha.out) (mid_of_body Hb.out)).mono ?_
 rintro e w1 ⟨rfl,hb1⟩
 obtain ⟨hc1,hf1⟩:=bcell hb1
 have hz1:=hb1.size
 simp at hz1
 have pw10:w.heap.size<w1.heap.size:=by omega
 have pw11:w.heap.size+1<w1.heap.size:=by omega
 have pw12:w.heap.size+1+1<w1.heap.size:=by omega
 have pw13:w.heap.size+1+1+1<w1.heap.size:=by omega
 go_wp2_with fail
 refine (good_yes a _ ha Ha.out).mono ?_
 rintro e w2 ⟨rfl,hb2⟩
 obtain ⟨hc2,hf2⟩:=bcell hb2
 have hz2:=hb2.size
 have pw20:w.heap.size<w2.heap.size:=by omega
 have pw21:w.heap.size+1<w2.heap.size:=by omega
 have pw22:w.heap.size+1+1<w2.heap.size:=by omega
 have pw23:w.heap.size+1+1+1<w2.heap.size:=by omega
 go_wp2_with fail
 refine (good_yes b _ hb Hb.out).mono ?_
 rintro e w3 ⟨rfl,hb3⟩
 obtain ⟨hc3,hf3⟩:=bcell hb3
 have hz3:=hb3.size
 have pw30:w.heap.size<w3.heap.size:=by omega
 have pw31:w.heap.size+1<w3.heap.size:=by omega
 have pw32:w.heap.size+1+1<w3.heap.size:=by omega
 have pw33:w.heap.size+1+1+1<w3.heap.size:=by omega
 go_upto_region 6 with fail
 go_cut [9,10] (λp q W=>TwoRows a b w3 p q W)
 case first=>
  go_region
  all_goals
   go_wp2_with fail
   go_meet
   first|with_reducible exact two_rows1 a b w3|with_reducible exact two_rows2 a b w3
 case rest=>
  obtain ⟨bx,bz,rfl,rfl,hne,hx4,hy4,lx,lz,hb4⟩:=hcut
  obtain ⟨hc4,hf4⟩:=bcell hb4
  have hz4:=hb4.size
  have pwc0:w.heap.size<wc.heap.size:=by omega
  have pwc1:w.heap.size+1<wc.heap.size:=by omega
  have pwc2:w.heap.size+1+1<wc.heap.size:=by omega
  have pwc3:w.heap.size+1+1+1<wc.heap.size:=by omega
  have lx4:=hx4.lt
  have ly4:=hy4.lt
  have HX4:=hI hx4
  have HY4:=hI hy4
  clear hx4 hy4
  go_wp2_with fail
  refine (speed_calls a _).mono ?_
  rintro e w5 ⟨rfl,hb5⟩
  obtain ⟨hc5,hf5⟩:=bcell hb5
  have hz5:=hb5.size
  have pw50:w.heap.size<w5.heap.size:=by omega
  have pw51:w.heap.size+1<w5.heap.size:=by omega
  have pw52:w.heap.size+1+1<w5.heap.size:=by omega
  have pw53:w.heap.size+1+1+1<w5.heap.size:=by omega
  go_wp2_with fail
  refine (speed_calls b _).mono ?_
  rintro e w6 ⟨rfl,hb6⟩
  obtain ⟨hc6,hf6⟩:=bcell hb6
  have hz6:=hb6.size
  have pw60:w.heap.size<w6.heap.size:=by omega
  have pw61:w.heap.size+1<w6.heap.size:=by omega
  have pw62:w.heap.size+1+1<w6.heap.size:=by omega
  have pw63:w.heap.size+1+1+1<w6.heap.size:=by omega
  have hx6:=(HX4.out.below hb5 bO).below hb6 bO
  have hy6:=(HY4.out.below hb5 bO).below hb6 bO
  have HX6:=hI hx6
  have HY6:=hI hy6
  clear hx6 hy6
  obtain ⟨⟨fa1,fa2,fa3,fa4⟩,fa5,fa6,fa7,fa8,fa9,fa10,fa11⟩:=body_facts Ha.out
  obtain ⟨⟨fb1,fb2,fb3,fb4⟩,fb5,fb6,fb7,fb8,fb9,fb10,fb11⟩:=body_facts Hb.out
  have dh:=depth_hi Ha.out Hb.out
  clear fa11 fb11
  have K:Below w.heap.size w w6:=(((((Below.refl _ w).alloc lR _).alloc sS _).alloc sO _).alloc sO _).trans (hb1.mono sO)|>.trans (hb2.mono bO)|>.trans (hb3.mono bO)|>.trans (hb4.mono bO)|>.trans (hb5.mono bO)|>.trans (hb6.mono bO)
  have HK:=hI K
  clear K
  by_cases h7:M.depth a.W b.W a.X b.X<M.depth a.H b.H a.Y b.Y
  ·by_cases h8:b.X<a.X
   ·have EM:M.meetR a b=({a with X:=M.pa a.X (-1) (M.depth a.W b.W a.X b.X) a.M b.M,PX:=M.qa a.PX ((M.part a.PX 1 a.M-M.part b.PX 1 b.M)*(-1)) (-1) a.M b.M a.R b.R},{b with X:=M.pb b.X (-1) (M.depth a.W b.W a.X b.X) a.M b.M,PX:=M.qb b.PX ((M.part a.PX 1 a.M-M.part b.PX 1 b.M)*(-1)) (-1) a.M b.M a.R b.R}):=by unfold M.meetR M.meetX M.meetY M.wayOf;rw [if_pos h7,if_pos h8]
    have HM:=hI EM
    clear EM
    go_wp2_with fail
    refine (lineX_calls a b _ bx bz _ _ _ _ HX6.out HY6.out hne fa9 fa10 fb9 fb10 (part1_bd _ _ fa3) (part1_bd _ _ fb3) bO bO).mono ?_
    rintro e w7 ⟨rfl,hx7,hy7,hb7⟩
    have hb7:=hb7 w3.heap.size lx lz
    have hz7:=hb7.size
    have hc7:∀b o,b<w3.heap.size->w7.cell? ⟨b,o,none⟩=w6.cell? ⟨b,o,none⟩:=λb o h=>hb7.cell (p:=⟨b,o,none⟩) h
    have hf7:∀b o,b<w3.heap.size->w7.frozen? ⟨b,o,none⟩=w6.frozen? ⟨b,o,none⟩:=λb o h=>hb7.frozen (p:=⟨b,o,none⟩) h
    obtain ⟨x0,x1,x2,x3,x4,x5,x6,x7⟩:=row_cells hx7
    obtain ⟨y0,y1,y2,y3,y4,y5,y6,y7⟩:=row_cells hy7
    clear hx7 hy7
    have nx2:w.heap.size+1+1≠bx:=by omega
    have nx3:w.heap.size+1+1+1≠bx:=by omega
    have nz2:w.heap.size+1+1≠bz:=by omega
    have nz3:w.heap.size+1+1+1≠bz:=by omega
    go_wp2_with fail
    go_region
    go_wp2
    refine bodyPost_ret (v:=.tuple #[rowV {a with X:=M.pa a.X (-1) (M.depth a.W b.W a.X b.X) a.M b.M,PX:=M.qa a.PX ((M.part a.PX 1 a.M-M.part b.PX 1 b.M)*(-1)) (-1) a.M b.M a.R b.R},rowV {b with X:=M.pb b.X (-1) (M.depth a.W b.W a.X b.X) a.M b.M,PX:=M.qb b.PX ((M.part a.PX 1 a.M-M.part b.PX 1 b.M)*(-1)) (-1) a.M b.M a.R b.R},.bool true]) ?_ rfl ⟨by rw [HM.out],?_⟩
    ·simp only [results,Tryz.results80]
     go_simp
    ·have k:=HK.out.trans (hb7.mono bO)
     refine Below.drew ?_
     repeat first|with_reducible exact k|((with_reducible refine Below.setCell ?_ ?_ _);rotate_left;(first|omega|(simp;omega)))
   ·have EM:M.meetR a b=({a with X:=M.pa a.X 1 (M.depth a.W b.W a.X b.X) a.M b.M,PX:=M.qa a.PX ((M.part a.PX 1 a.M-M.part b.PX 1 b.M)*1) 1 a.M b.M a.R b.R},{b with X:=M.pb b.X 1 (M.depth a.W b.W a.X b.X) a.M b.M,PX:=M.qb b.PX ((M.part a.PX 1 a.M-M.part b.PX 1 b.M)*1) 1 a.M b.M a.R b.R}):=by unfold M.meetR M.meetX M.meetY M.wayOf;rw [if_pos h7,if_neg h8]
    have HM:=hI EM
    clear EM
    go_wp2_with fail
    refine (lineX_calls a b _ bx bz _ _ _ _ HX6.out HY6.out hne fa9 fa10 fb9 fb10 (part1_bd _ _ fa3) (part1_bd _ _ fb3) bO bO).mono ?_
    rintro e w7 ⟨rfl,hx7,hy7,hb7⟩
    have hb7:=hb7 w3.heap.size lx lz
    have hz7:=hb7.size
    have hc7:∀b o,b<w3.heap.size->w7.cell? ⟨b,o,none⟩=w6.cell? ⟨b,o,none⟩:=λb o h=>hb7.cell (p:=⟨b,o,none⟩) h
    have hf7:∀b o,b<w3.heap.size->w7.frozen? ⟨b,o,none⟩=w6.frozen? ⟨b,o,none⟩:=λb o h=>hb7.frozen (p:=⟨b,o,none⟩) h
    obtain ⟨x0,x1,x2,x3,x4,x5,x6,x7⟩:=row_cells hx7
    obtain ⟨y0,y1,y2,y3,y4,y5,y6,y7⟩:=row_cells hy7
    clear hx7 hy7
    have nx2:w.heap.size+1+1≠bx:=by omega
    have nx3:w.heap.size+1+1+1≠bx:=by omega
    have nz2:w.heap.size+1+1≠bz:=by omega
    have nz3:w.heap.size+1+1+1≠bz:=by omega
    go_wp2_with fail
    go_region
    go_wp2
    refine bodyPost_ret (v:=.tuple #[rowV {a with X:=M.pa a.X 1 (M.depth a.W b.W a.X b.X) a.M b.M,PX:=M.qa a.PX ((M.part a.PX 1 a.M-M.part b.PX 1 b.M)*1) 1 a.M b.M a.R b.R},rowV {b with X:=M.pb b.X 1 (M.depth a.W b.W a.X b.X) a.M b.M,PX:=M.qb b.PX ((M.part a.PX 1 a.M-M.part b.PX 1 b.M)*1) 1 a.M b.M a.R b.R},.bool true]) ?_ rfl ⟨by rw [HM.out],?_⟩
    ·simp only [results,Tryz.results80]
     go_simp
    ·have k:=HK.out.trans (hb7.mono bO)
     refine Below.drew ?_
     repeat first|with_reducible exact k|((with_reducible refine Below.setCell ?_ ?_ _);rotate_left;(first|omega|(simp;omega)))
  ·by_cases h8:b.Y<a.Y
   ·have EM:M.meetR a b=({a with Y:=M.pa a.Y (-1) (M.depth a.H b.H a.Y b.Y) a.M b.M,PY:=M.qa a.PY ((M.part a.PY 1 a.M-M.part b.PY 1 b.M)*(-1)) (-1) a.M b.M a.R b.R},{b with Y:=M.pb b.Y (-1) (M.depth a.H b.H a.Y b.Y) a.M b.M,PY:=M.qb b.PY ((M.part a.PY 1 a.M-M.part b.PY 1 b.M)*(-1)) (-1) a.M b.M a.R b.R}):=by unfold M.meetR M.meetX M.meetY M.wayOf;rw [if_neg h7,if_pos h8]
    have HM:=hI EM
    clear EM
    go_wp2_with fail
    refine (lineY_calls a b _ bx bz _ _ _ _ HX6.out HY6.out hne fa9 fa10 fb9 fb10 (part1_bd _ _ fa4) (part1_bd _ _ fb4) bO bO).mono ?_
    rintro e w7 ⟨rfl,hx7,hy7,hb7⟩
    have hb7:=hb7 w3.heap.size lx lz
    have hz7:=hb7.size
    have hc7:∀b o,b<w3.heap.size->w7.cell? ⟨b,o,none⟩=w6.cell? ⟨b,o,none⟩:=λb o h=>hb7.cell (p:=⟨b,o,none⟩) h
    have hf7:∀b o,b<w3.heap.size->w7.frozen? ⟨b,o,none⟩=w6.frozen? ⟨b,o,none⟩:=λb o h=>hb7.frozen (p:=⟨b,o,none⟩) h
    obtain ⟨x0,x1,x2,x3,x4,x5,x6,x7⟩:=row_cells hx7
    obtain ⟨y0,y1,y2,y3,y4,y5,y6,y7⟩:=row_cells hy7
    clear hx7 hy7
    have nx2:w.heap.size+1+1≠bx:=by omega
    have nx3:w.heap.size+1+1+1≠bx:=by omega
    have nz2:w.heap.size+1+1≠bz:=by omega
    have nz3:w.heap.size+1+1+1≠bz:=by omega
    go_wp2_with fail
    go_region
    go_wp2
    refine bodyPost_ret (v:=.tuple #[rowV {a with Y:=M.pa a.Y (-1) (M.depth a.H b.H a.Y b.Y) a.M b.M,PY:=M.qa a.PY ((M.part a.PY 1 a.M-M.part b.PY 1 b.M)*(-1)) (-1) a.M b.M a.R b.R},rowV {b with Y:=M.pb b.Y (-1) (M.depth a.H b.H a.Y b.Y) a.M b.M,PY:=M.qb b.PY ((M.part a.PY 1 a.M-M.part b.PY 1 b.M)*(-1)) (-1) a.M b.M a.R b.R},.bool true]) ?_ rfl ⟨by rw [HM.out],?_⟩
    ·simp only [results,Tryz.results80]
     go_simp
    ·have k:=HK.out.trans (hb7.mono bO)
     refine Below.drew ?_
     repeat first|with_reducible exact k|((with_reducible refine Below.setCell ?_ ?_ _);rotate_left;(first|omega|(simp;omega)))
   ·have EM:M.meetR a b=({a with Y:=M.pa a.Y 1 (M.depth a.H b.H a.Y b.Y) a.M b.M,PY:=M.qa a.PY ((M.part a.PY 1 a.M-M.part b.PY 1 b.M)*1) 1 a.M b.M a.R b.R},{b with Y:=M.pb b.Y 1 (M.depth a.H b.H a.Y b.Y) a.M b.M,PY:=M.qb b.PY ((M.part a.PY 1 a.M-M.part b.PY 1 b.M)*1) 1 a.M b.M a.R b.R}):=by unfold M.meetR M.meetX M.meetY M.wayOf;rw [if_neg h7,if_neg h8]
    have HM:=hI EM
    clear EM
    go_wp2_with fail
    refine (lineY_calls a b _ bx bz _ _ _ _ HX6.out HY6.out hne fa9 fa10 fb9 fb10 (part1_bd _ _ fa4) (part1_bd _ _ fb4) bO bO).mono ?_
    rintro e w7 ⟨rfl,hx7,hy7,hb7⟩
    have hb7:=hb7 w3.heap.size lx lz
    have hz7:=hb7.size
    have hc7:∀b o,b<w3.heap.size->w7.cell? ⟨b,o,none⟩=w6.cell? ⟨b,o,none⟩:=λb o h=>hb7.cell (p:=⟨b,o,none⟩) h
    have hf7:∀b o,b<w3.heap.size->w7.frozen? ⟨b,o,none⟩=w6.frozen? ⟨b,o,none⟩:=λb o h=>hb7.frozen (p:=⟨b,o,none⟩) h
    obtain ⟨x0,x1,x2,x3,x4,x5,x6,x7⟩:=row_cells hx7
    obtain ⟨y0,y1,y2,y3,y4,y5,y6,y7⟩:=row_cells hy7
    clear hx7 hy7
    have nx2:w.heap.size+1+1≠bx:=by omega
    have nx3:w.heap.size+1+1+1≠bx:=by omega
    have nz2:w.heap.size+1+1≠bz:=by omega
    have nz3:w.heap.size+1+1+1≠bz:=by omega
    go_wp2_with fail
    go_region
    go_wp2
    refine bodyPost_ret (v:=.tuple #[rowV {a with Y:=M.pa a.Y 1 (M.depth a.H b.H a.Y b.Y) a.M b.M,PY:=M.qa a.PY ((M.part a.PY 1 a.M-M.part b.PY 1 b.M)*1) 1 a.M b.M a.R b.R},rowV {b with Y:=M.pb b.Y 1 (M.depth a.H b.H a.Y b.Y) a.M b.M,PY:=M.qb b.PY ((M.part a.PY 1 a.M-M.part b.PY 1 b.M)*1) 1 a.M b.M a.R b.R},.bool true]) ?_ rfl ⟨by rw [HM.out],?_⟩
    ·simp only [results,Tryz.results80]
     go_simp
    ·have k:=HK.out.trans (hb7.mono bO)
     refine Below.drew ?_
     repeat first|with_reducible exact k|((with_reducible refine Below.setCell ?_ ?_ _);rotate_left;(first|omega|(simp;omega)))
theorem meet_calls (a b:M.Row) (w:World) (ha:RowOk a) (hb:RowOk b):
  Calls Tryz.prog 80 #[rowV a,rowV b] w λe w'=>e=.returned (.tuple #[rowV (M.meet a b).1,rowV (M.meet a b).2,.bool (M.meets a b)])/\Below w.heap.size w w':=by
 have bad:M.meets a b=false->M.meet a b=(a,b):=λh=>by unfold M.meet;rw [if_pos h]
 by_cases h1:M.body a=true
 ·by_cases h2:M.body b=true
  ·by_cases h3:M.depth a.W b.W a.X b.X<1
   ·have m:M.meets a b=false:=by unfold M.meets;simp [h1,h2];omega
    rw [m,bad m];exact meet_bad3 a b w ha hb h1 h2 h3
   ·by_cases h4:M.depth a.H b.H a.Y b.Y<1
    ·have m:M.meets a b=false:=by unfold M.meets;simp [h1,h2];omega
     rw [m,bad m];exact meet_bad4 a b w ha hb h1 h2 bO h4
    ·have m:M.meets a b=true:=by unfold M.meets;simp [h1,h2];omega
     have f1:=body_facts h1
     have f2:=body_facts h2
     rw [m]
     by_cases h5:a.M=0
     ·by_cases h6:b.M=0
      ·have E:M.meet a b=(a,b):=by unfold M.meet;rw [if_neg (by rw [m];decide),if_pos ⟨h5,h6⟩]
       rw [E];exact meet_fixed a b w ha hb h1 h2 bO bO h5 h6
      ·have E:M.meet a b=M.meetR a b:=by unfold M.meet;rw [if_neg (by rw [m];decide),if_neg bO]
       rw [E];exact meet_move2 a b w ha hb h1 h2 bO bO bO bO
     ·have E:M.meet a b=M.meetR a b:=by unfold M.meet;rw [if_neg (by rw [m];decide),if_neg bO]
      rw [E];exact meet_move1 a b w ha hb h1 h2 bO bO bO
  ·have h2':M.body b=false:=by simpa using h2
   have m:M.meets a b=false:=by unfold M.meets;simp [h1,h2']
   rw [m,bad m];exact meet_bad2 a b w ha hb h1 h2'
 ·have h1':M.body a=false:=by simpa using h1
  have m:M.meets a b=false:=by unfold M.meets;simp [h1']
  rw [m,bad m];exact meet_bad1 a b w ha hb h1'
end Go.Proofs.YtemkbjaojinaoaaGreat
