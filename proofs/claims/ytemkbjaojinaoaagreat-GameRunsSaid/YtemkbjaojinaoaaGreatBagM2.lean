/- Several small texts in one. No condition of its own: each part says its own. -/
import Derived.Test.YtemkbjaojinaoaaGreatShort
import Derived.Test.YtemkbjaojinaoaaGreatFix
import Derived.Test.YtemkbjaojinaoaaGreatBagP
import Derived.LoopN
import Derived.Test.YtemkbjaojinaoaaGreatBagMa
import Derived.StillTailTactics
import Derived.IntWalk
import Derived.Test.YtemkbjaojinaoaaGreatBagSo
set_option linter.unusedVariables false
set_option linter.unusedSimpArgs false
set_option maxRecDepth 100000
set_option maxHeartbeats 4000000
namespace Go.Proofs.YtemkbjaojinaoaaGreat
open Go.RowKit
namespace M
theorem part_signs (n a b:Int) (hb:b≠0):
  (if n<0 then -1 else 1)*((if a<0 then -1 else 1)*(if b<0 then -1 else 1))*((abs n*abs a).tdiv (abs b))=(n*a).tdiv b:=by
 unfold abs
 by_cases h1:n<0<;>by_cases h2:a<0<;>by_cases h3:b<0<;>simp [h1,h2,h3,Int.neg_tdiv,Int.tdiv_neg,Int.neg_mul,Int.mul_neg]
end M
theorem withinOf_calls (n most:Int) (w:World) (h0:0<=most) (h1:most<=9223372036854775807):
  Calls Tryz.prog 64 #[.int .i64 n,.int .i64 most] w λe w'=>e=.returned (.int .i64 (M.within n most))/\w=w':=by
 go_enter Tryz.func64,Tryz.ntmps64
 go_wp2
 all_goals (go_ret;refine ⟨ret_int ?_,rfl⟩;unfold M.within;(repeat' split)<;>omega)
theorem addOf_calls (a b most:Int) (w:World):
  Calls Tryz.prog 34 #[.int .i64 a,.int .i64 b,.int .i64 most] w λe w'=>e=.returned (.int .i64 (M.add a b most))/\w=w':=by
 have hb:=M.capped_bd most
 have ha:=M.within_bd a (M.capped most) hb.1
 have hc:=M.within_bd b (M.capped most) hb.1
 by_cases c1:most<0
 ·have e:M.capped most=0:=by unfold M.capped;rw [if_pos c1]
  have E:M.add a b most=M.within (M.within a 0+M.within b 0) 0:=by unfold M.add;rw [e]
  rw [e] at ha hc
  rw [E]
  clear e E hb
  go_enter Tryz.func34,Tryz.ntmps34
  go_wp2_with (go_at_call 64;refine (withinOf_calls _ _ _ bO bO).mono ?_;rintro e w' ⟨rfl,rfl⟩)
  go_ret
  exact ⟨rfl,rfl⟩
 ·by_cases c2:1099511627776<most
  ·have e:M.capped most=1099511627776:=by unfold M.capped;rw [if_neg c1,if_pos c2]
   have E:M.add a b most=M.within (M.within a 1099511627776+M.within b 1099511627776) 1099511627776:=by unfold M.add;rw [e]
   rw [e] at ha hc
   rw [E]
   clear e E hb
   go_enter Tryz.func34,Tryz.ntmps34
   go_wp2_with (go_at_call 64;refine (withinOf_calls _ _ _ bO bO).mono ?_;rintro e w' ⟨rfl,rfl⟩)
   go_ret
   exact ⟨rfl,rfl⟩
  ·have e:M.capped most=most:=by unfold M.capped;rw [if_neg c1,if_neg c2]
   have E:M.add a b most=M.within (M.within a most+M.within b most) most:=by unfold M.add;rw [e]
   rw [e] at ha hc
   rw [E]
   clear e E hb
   go_enter Tryz.func34,Tryz.ntmps34
   go_wp2_with (go_at_call 64;refine (withinOf_calls _ _ _ bO bO).mono ?_;rintro e w' ⟨rfl,rfl⟩)
   go_ret
   exact ⟨rfl,rfl⟩
theorem absOf_calls (x:Int) (w:World) (h1:-9223372036854775807<=x) (h2:x<=9223372036854775807):
  Calls Tryz.prog 118 #[.int .i64 x] w λe w'=>e=.returned (.int .i64 (M.abs x))/\w=w':=by
 go_enter Tryz.func118,Tryz.ntmps118
 go_wp2
 all_goals (go_ret;refine ⟨ret_int ?_,rfl⟩;unfold M.abs;(repeat' split)<;>omega)
theorem partOf_calls (n a b:Int) (w:World):
  Calls Tryz.prog 85 #[.int .i64 n,.int .i64 a,.int .i64 b] w λe w'=>e=.returned (.int .i64 (M.part n a b))/\w=w':=by
 have h1:=M.within_bd n 268435456 bO
 have h2:=M.within_bd a 268435456 bO
 have h3:=M.within_bd b 268435456 bO
 by_cases hz:M.within b 268435456=0
 ·have e1:(M.within b 268435456==0)=true:=by simp [hz]
  have E:M.part n a b=0:=by unfold M.part;rw [if_pos hz]
  rw [E]
  clear hz
  go_enter Tryz.func85,Tryz.ntmps85
  go_wp2_with (go_at_call 64;refine (withinOf_calls _ _ _ bO bO).mono ?_;rintro e w' ⟨rfl,rfl⟩)
  go_ret
  exact ⟨rfl,rfl⟩
 ·have e1:(M.within b 268435456==0)=false:=by simp [hz]
  have E:M.part n a b=(M.within n 268435456*M.within a 268435456).tdiv (M.within b 268435456):=by unfold M.part;rw [if_neg hz]
  have HE:=hI E
  clear E
  have i0:∀(x y z:Value) w,(Instr.index 175 (.agg #[x,y,z]) (.int .i64 0)).run Tryz.prog w=.ok x w:=λ_ _ _ _=>by kernel_rfl
  have i1:∀(x y z:Value) w,(Instr.index 175 (.agg #[x,y,z]) (.int .i64 1)).run Tryz.prog w=.ok y w:=λ_ _ _ _=>by kernel_rfl
  have i2:∀(x y z:Value) w,(Instr.index 175 (.agg #[x,y,z]) (.int .i64 2)).run Tryz.prog w=.ok z w:=λ_ _ _ _=>by kernel_rfl
  have P:=M.part_signs (M.within n 268435456) (M.within a 268435456) (M.within b 268435456) hz
  have HP:=hI P
  clear P
  by_cases c1:M.within n 268435456<0<;>by_cases c2:M.within a 268435456<0<;>by_cases c3:M.within b 268435456<0
  all_goals
   go_enter Tryz.func85,Tryz.ntmps85
   go_wp2_with (go_at_call 64;refine (withinOf_calls _ _ _ bO bO).mono ?_;rintro e w' ⟨rfl,rfl⟩)
   refine wp_loop_rounds 4 ?_
   rw [rounds_succ]
   go_wp2_with fail
   rw [rounds_succ]
   go_wp2_with fail
   rw [rounds_succ]
   go_wp2_with fail
   have s1:0<=M.abs (M.within n 268435456)/\M.abs (M.within n 268435456)<=268435456:=by unfold M.abs;split<;>omega
   have s2:0<=M.abs (M.within a 268435456)/\M.abs (M.within a 268435456)<=268435456:=by unfold M.abs;split<;>omega
   have s3:0<M.abs (M.within b 268435456)/\M.abs (M.within b 268435456)<=268435456:=by unfold M.abs;split<;>omega
   have hmul:=M.mul_bd (M.abs (M.within n 268435456)) (M.abs (M.within a 268435456)) 268435456 268435456 bO bO bO bO
   have hq:=M.tdiv_bd (M.abs (M.within n 268435456)*M.abs (M.within a 268435456)) (M.abs (M.within b 268435456)) 72057594037927936 bO bO
   rw [rounds_succ]
   go_wp2_with (go_at_call 118;refine (absOf_calls _ _ bO bO).mono ?_;rintro e w' ⟨rfl,rfl⟩)
   go_ret
   refine ⟨ret_int ?_,rfl⟩
   rw [HE.out,←HP.out]
   (repeat' split)<;>omega
end Go.Proofs.YtemkbjaojinaoaaGreat
namespace Go.Proofs.YtemkbjaojinaoaaGreat
open Go.RowKit
theorem ret_int2 {a b c d:Int} (h:a=c) (k:b=d):Ending.returned (.tuple #[.int .i64 a,.int .i64 b])=.returned (.tuple #[.int .i64 c,.int .i64 d]):=by rw [h,k]
def M.isIn (n lo hi:Int):Bool:=decide (lo<=n/\n<=hi)
theorem isIn_calls (n lo hi:Int) (w:World):Calls Tryz.prog 16 #[.int .i64 n,.int .i64 lo,.int .i64 hi] w λe w'=>e=.returned (.bool (M.isIn n lo hi))/\w=w':=by
 go_enter Tryz.func16,Tryz.ntmps16
 go_wp2
 all_goals
  go_ret
  refine ⟨ret_bool ?_,rfl⟩
  unfold M.isIn
  first
   |(rw [Bool.eq_iff_iff];simp only [decide_eq_true_eq];omega)
   |(simp;omega)
theorem M.body_isIn (r:M.Row):M.body r=(M.isIn r.X (-1048576) 1048576 && M.isIn r.Y (-1048576) 1048576 && M.isIn r.PX (-16777216) 16777216 && M.isIn r.PY (-16777216) 16777216 && M.isIn r.W 1 4096 && M.isIn r.H 1 4096 && M.isIn r.M 0 9 && M.isIn r.R 0 256 && (r.M !=0||(r.PX==0 && r.PY==0))):=by
 rw [Bool.eq_iff_iff]
 simp only [M.body,M.number,M.isIn,Bool.and_eq_true,Bool.or_eq_true,decide_eq_true_eq,beq_iff_eq,bne_iff_ne]
 omega
theorem isBody_calls (r:M.Row) (w:World):Calls Tryz.prog 87 #[rowV r] w λe w'=>e=.returned (.bool (M.body r))/\Below w.heap.size w w':=by
 rw [M.body_isIn]
 go_enter Tryz.func87,Tryz.ntmps87
 go_wp2_with (go_at_call 16;refine (isIn_calls _ _ _ _).mono ?_;rintro e w' ⟨rfl,rfl⟩)
 all_goals
  go_ret
  refine ⟨ret_bool ?_,(Below.refl _ w).alloc lR _⟩
  first
   |(simp [*];done)
   |(simp only [M.isIn,decide_eq_true_eq] at *;rw [Bool.eq_iff_iff];simp only [Bool.and_eq_true,Bool.or_eq_true,decide_eq_true_eq,beq_iff_eq,bne_iff_ne];omega)
theorem speedOf_calls (r:M.Row) (w:World):
  Calls Tryz.prog 57 #[rowV r] w λe w'=>e=.returned (.tuple #[.int .i64 (M.part r.PX 1 r.M),.int .i64 (M.part r.PY 1 r.M)])/\Below w.heap.size w w':=by
 go_enter Tryz.func57,Tryz.ntmps57
 go_wp2
 go_quiet ((go_at_call 85;exact quiet_left (partOf_calls _ _ _ _)))
 go_wp2
 go_ret2
 exact ⟨rfl,below_drewN ((Below.refl _ _).alloc lR _) _⟩
theorem depthOf_calls (a b:M.Row) (w:World) (ha:RowMid a) (hb:RowMid b):
  Calls Tryz.prog 88 #[rowV a,rowV b] w λe w'=>e=.returned (.tuple #[.int .i64 (M.depth a.W b.W a.X b.X),.int .i64 (M.depth a.H b.H a.Y b.Y)])/\Below w.heap.size w w':=by
 obtain ⟨ha1,ha2,ha3,ha4⟩:=ha
 obtain ⟨hb1,hb2,hb3,hb4⟩:=hb
 have K:∀o1 o2,Below w.heap.size w ((w.alloc o1).alloc o2):=λo1 o2=>((Below.refl _ _).alloc lR _).alloc sS _
 have HK:=hI K
 clear K
 by_cases c1:a.X-b.X<0
 ·have A1:M.depth a.W b.W a.X b.X=a.W+b.W- -(a.X-b.X):=by unfold M.depth M.abs;rw [if_pos c1]
  by_cases c2:a.Y-b.Y<0
  ·have A2:M.depth a.H b.H a.Y b.Y=a.H+b.H- -(a.Y-b.Y):=by unfold M.depth M.abs;rw [if_pos c2]
   rw [A1,A2]
   go_enter Tryz.func88,Tryz.ntmps88
   go_wp2
   go_quiet (fail)
   go_wp2
   go_region
   go_wp2
   go_ret2
   exact ⟨ret_int2 bO bO,by repeat first|exact HK.out _ _|apply Below.drew|apply below_drewN⟩
  ·have A2:M.depth a.H b.H a.Y b.Y=a.H+b.H-(a.Y-b.Y):=by unfold M.depth M.abs;rw [if_neg c2]
   rw [A1,A2]
   go_enter Tryz.func88,Tryz.ntmps88
   go_wp2
   go_quiet (fail)
   go_wp2
   go_region
   go_wp2
   go_ret2
   exact ⟨ret_int2 bO bO,by repeat first|exact HK.out _ _|apply Below.drew|apply below_drewN⟩
 ·have A1:M.depth a.W b.W a.X b.X=a.W+b.W-(a.X-b.X):=by unfold M.depth M.abs;rw [if_neg c1]
  by_cases c2:a.Y-b.Y<0
  ·have A2:M.depth a.H b.H a.Y b.Y=a.H+b.H- -(a.Y-b.Y):=by unfold M.depth M.abs;rw [if_pos c2]
   rw [A1,A2]
   go_enter Tryz.func88,Tryz.ntmps88
   go_wp2
   go_quiet (fail)
   go_wp2
   go_region
   go_wp2
   go_ret2
   exact ⟨ret_int2 bO bO,by repeat first|exact HK.out _ _|apply Below.drew|apply below_drewN⟩
  ·have A2:M.depth a.H b.H a.Y b.Y=a.H+b.H-(a.Y-b.Y):=by unfold M.depth M.abs;rw [if_neg c2]
   rw [A1,A2]
   go_enter Tryz.func88,Tryz.ntmps88
   go_wp2
   go_quiet (fail)
   go_wp2
   go_region
   go_wp2
   go_ret2
   exact ⟨ret_int2 bO bO,by repeat first|exact HK.out _ _|apply Below.drew|apply below_drewN⟩
theorem moveX_calls (r:M.Row) (w:World) (bx bw:Nat) (far way kick:Int) (hx:Blk w bx 38 (rowC r)) (hw:w.cell? ⟨bw,0,none⟩=some (.int .i64 way)) (hne:bw≠bx)
  (h1:-16777216<=far*way/\far*way<=16777216):
  Calls Tryz.prog 89 #[.pointer (some ⟨bx,0,none⟩),.pointer (some ⟨bx,2,none⟩),.int .i64 far,.int .i64 kick,.pointer (some ⟨bw,0,none⟩)] w λe w'=>
   e=.returned (.tuple #[])/\Blk w' bx 38 (rowC {r with X:=M.add r.X (far*way) 1048576,PX:=M.add r.PX kick 16777216})
    /\(∀b o,b≠bx->w'.cell? ⟨b,o,none⟩=w.cell? ⟨b,o,none⟩)/\(∀b o,b≠bx->w'.frozen? ⟨b,o,none⟩=w.frozen? ⟨b,o,none⟩)/\w'.heap.size=w.heap.size/\(∀B,B<=bx->Below B w w')/\∀g,g≠bx->w'.heap[g]?=w.heap[g]?:=by
 obtain ⟨⟨f0,f1⟩,g0,g1⟩:=rowX_facts hx
 have HX:=hI hx
 clear hx
 go_enter Tryz.func89,Tryz.ntmps89
 go_wp2_with fail
 have hwr:IntKind.i64.wrap (far*way)=far*way:=IntWalk.i64_in _ bO
 go_still_tail 9,kR
 refine wpStill_step (λK hK=>?_)
 go_simp
 refine ⟨_,(addOf_calls _ _ _ _).mono (λe w' h=>⟨h.1,h.2.symm⟩),hK _ ?_⟩
 clear hK K
 repeat still_step
 refine wpStill_nil ?_
 clear hwr
 change wpList _ _ _ _ _ w.drew
 go_wp2_with (go_at_call 34;refine (addOf_calls _ _ _ _).mono ?_;rintro e w' ⟨rfl,rfl⟩)
 go_end0
 refine ⟨rfl,?_,?_,?_,?_,?_,?_⟩
 ·apply blk_eq
  ·repeat first|with_reducible exact HX.out|with_reducible apply Blk.put|with_reducible apply Blk.drew
  ·rfl
 ·intro b o hb
  show ((w.setCell _ _).setCell _ _).cell? _=_
  rw [World.cell?_setCell_other _ _ _ _ (by intro e;have h:=congrArg Addr.block e;first|exact hb h|exact hb h.symm),World.cell?_setCell_other _ _ _ _ (by intro e;have h:=congrArg Addr.block e;first|exact hb h|exact hb h.symm)]
 ·intro b o hb
  simp
 ·simp [World.setCell]
 ·intro B hB
  repeat first|with_reducible exact Below.refl _ _|with_reducible apply Below.drew|((with_reducible refine Below.setCell ?_ ?_ _);rotate_left;assumption)
 ·intro g hg
  exact (bS _ _ _ g hg).trans (bS _ _ _ g hg)
theorem moveY_calls (r:M.Row) (w:World) (bx bw:Nat) (far way kick:Int) (hx:Blk w bx 38 (rowC r)) (hw:w.cell? ⟨bw,0,none⟩=some (.int .i64 way)) (hne:bw≠bx)
  (h1:-16777216<=far*way/\far*way<=16777216):
  Calls Tryz.prog 89 #[.pointer (some ⟨bx,1,none⟩),.pointer (some ⟨bx,3,none⟩),.int .i64 far,.int .i64 kick,.pointer (some ⟨bw,0,none⟩)] w λe w'=>
   e=.returned (.tuple #[])/\Blk w' bx 38 (rowC {r with Y:=M.add r.Y (far*way) 1048576,PY:=M.add r.PY kick 16777216})
    /\(∀b o,b≠bx->w'.cell? ⟨b,o,none⟩=w.cell? ⟨b,o,none⟩)/\(∀b o,b≠bx->w'.frozen? ⟨b,o,none⟩=w.frozen? ⟨b,o,none⟩)/\w'.heap.size=w.heap.size/\(∀B,B<=bx->Below B w w')/\∀g,g≠bx->w'.heap[g]?=w.heap[g]?:=by
 obtain ⟨⟨f0,f1⟩,g0,g1⟩:=rowY_facts hx
 have HX:=hI hx
 clear hx
 go_enter Tryz.func89,Tryz.ntmps89
 go_wp2_with fail
 have hwr:IntKind.i64.wrap (far*way)=far*way:=IntWalk.i64_in _ bO
 go_still_tail 9,kR
 refine wpStill_step (λK hK=>?_)
 go_simp
 refine ⟨_,(addOf_calls _ _ _ _).mono (λe w' h=>⟨h.1,h.2.symm⟩),hK _ ?_⟩
 clear hK K
 repeat still_step
 refine wpStill_nil ?_
 clear hwr
 change wpList _ _ _ _ _ w.drew
 go_wp2_with (go_at_call 34;refine (addOf_calls _ _ _ _).mono ?_;rintro e w' ⟨rfl,rfl⟩)
 go_end0
 refine ⟨rfl,?_,?_,?_,?_,?_,?_⟩
 ·apply blk_eq
  ·repeat first|with_reducible exact HX.out|with_reducible apply Blk.put|with_reducible apply Blk.drew
  ·rfl
 ·intro b o hb
  show ((w.setCell _ _).setCell _ _).cell? _=_
  rw [World.cell?_setCell_other _ _ _ _ (by intro e;have h:=congrArg Addr.block e;first|exact hb h|exact hb h.symm),World.cell?_setCell_other _ _ _ _ (by intro e;have h:=congrArg Addr.block e;first|exact hb h|exact hb h.symm)]
 ·intro b o hb
  simp
 ·simp [World.setCell]
 ·intro B hB
  repeat first|with_reducible exact Below.refl _ _|with_reducible apply Below.drew|((with_reducible refine Below.setCell ?_ ?_ _);rotate_left;assumption)
 ·intro g hg
  exact (bS _ _ _ g hg).trans (bS _ _ _ g hg)
theorem wallOf_calls (at_ push half wide back:Int) (w:World) (h1:Mid at_) (h2:Mid push) (h3:Mid half) (h4:Mid wide):
  Calls Tryz.prog 61 #[.int .i64 at_,.int .i64 push,.int .i64 half,.int .i64 wide,.int .i64 back] w λe w'=>
   e=.returned (.tuple #[.int .i64 (M.wallA at_ half wide),.int .i64 (M.wallP at_ push half wide back)])/\w=w':=by
 unfold Mid at *
 by_cases cp:push<0
 ·have EA:M.abs push=-push:=by unfold M.abs;rw [if_pos cp]
  have bp:=M.part_bd (-push) (M.within back 256) 256
  by_cases c0:wide-half<half
  ·have E:M.far half wide=half:=by unfold M.far;split<;>omega
   unfold M.wallA M.wallP
   rw [E,EA]
   clear E
   by_cases c1:at_<half
   ·rw [if_pos c1,if_pos c1]
    go_enter Tryz.func61,Tryz.ntmps61
    go_wp2_with (first|(go_at_call 64;refine (withinOf_calls _ _ _ bO bO).mono ?_;rintro e w' ⟨rfl,rfl⟩)|(go_at_call 85;refine (partOf_calls _ _ _ _).mono ?_;rintro e w' ⟨rfl,rfl⟩))
    go_ret2
    exact ⟨rfl,rfl⟩
   ·rw [if_neg c1,if_neg c1]
    by_cases c2:half<at_
    ·rw [if_pos c2,if_pos c2]
     go_enter Tryz.func61,Tryz.ntmps61
     go_wp2_with (first|(go_at_call 64;refine (withinOf_calls _ _ _ bO bO).mono ?_;rintro e w' ⟨rfl,rfl⟩)|(go_at_call 85;refine (partOf_calls _ _ _ _).mono ?_;rintro e w' ⟨rfl,rfl⟩))
     go_ret2
     exact ⟨rfl,rfl⟩
    ·rw [if_neg c2,if_neg c2]
     go_enter Tryz.func61,Tryz.ntmps61
     go_wp2_with (first|(go_at_call 64;refine (withinOf_calls _ _ _ bO bO).mono ?_;rintro e w' ⟨rfl,rfl⟩)|(go_at_call 85;refine (partOf_calls _ _ _ _).mono ?_;rintro e w' ⟨rfl,rfl⟩))
     go_ret2
     exact ⟨rfl,rfl⟩
  ·have E:M.far half wide=wide-half:=by unfold M.far;split<;>omega
   unfold M.wallA M.wallP
   rw [E,EA]
   clear E
   by_cases c1:at_<half
   ·rw [if_pos c1,if_pos c1]
    go_enter Tryz.func61,Tryz.ntmps61
    go_wp2_with (first|(go_at_call 64;refine (withinOf_calls _ _ _ bO bO).mono ?_;rintro e w' ⟨rfl,rfl⟩)|(go_at_call 85;refine (partOf_calls _ _ _ _).mono ?_;rintro e w' ⟨rfl,rfl⟩))
    go_ret2
    exact ⟨rfl,rfl⟩
   ·rw [if_neg c1,if_neg c1]
    by_cases c2:wide-half<at_
    ·rw [if_pos c2,if_pos c2]
     go_enter Tryz.func61,Tryz.ntmps61
     go_wp2_with (first|(go_at_call 64;refine (withinOf_calls _ _ _ bO bO).mono ?_;rintro e w' ⟨rfl,rfl⟩)|(go_at_call 85;refine (partOf_calls _ _ _ _).mono ?_;rintro e w' ⟨rfl,rfl⟩))
     go_ret2
     exact ⟨rfl,rfl⟩
    ·rw [if_neg c2,if_neg c2]
     go_enter Tryz.func61,Tryz.ntmps61
     go_wp2_with (first|(go_at_call 64;refine (withinOf_calls _ _ _ bO bO).mono ?_;rintro e w' ⟨rfl,rfl⟩)|(go_at_call 85;refine (partOf_calls _ _ _ _).mono ?_;rintro e w' ⟨rfl,rfl⟩))
     go_ret2
     exact ⟨rfl,rfl⟩
 ·have EA:M.abs push=push:=by unfold M.abs;rw [if_neg cp]
  have bp:=M.part_bd push (M.within back 256) 256
  by_cases c0:wide-half<half
  ·have E:M.far half wide=half:=by unfold M.far;split<;>omega
   unfold M.wallA M.wallP
   rw [E,EA]
   clear E
   by_cases c1:at_<half
   ·rw [if_pos c1,if_pos c1]
    go_enter Tryz.func61,Tryz.ntmps61
    go_wp2_with (first|(go_at_call 64;refine (withinOf_calls _ _ _ bO bO).mono ?_;rintro e w' ⟨rfl,rfl⟩)|(go_at_call 85;refine (partOf_calls _ _ _ _).mono ?_;rintro e w' ⟨rfl,rfl⟩))
    go_ret2
    exact ⟨rfl,rfl⟩
   ·rw [if_neg c1,if_neg c1]
    by_cases c2:half<at_
    ·rw [if_pos c2,if_pos c2]
     go_enter Tryz.func61,Tryz.ntmps61
     go_wp2_with (first|(go_at_call 64;refine (withinOf_calls _ _ _ bO bO).mono ?_;rintro e w' ⟨rfl,rfl⟩)|(go_at_call 85;refine (partOf_calls _ _ _ _).mono ?_;rintro e w' ⟨rfl,rfl⟩))
     go_ret2
     exact ⟨rfl,rfl⟩
    ·rw [if_neg c2,if_neg c2]
     go_enter Tryz.func61,Tryz.ntmps61
     go_wp2_with (first|(go_at_call 64;refine (withinOf_calls _ _ _ bO bO).mono ?_;rintro e w' ⟨rfl,rfl⟩)|(go_at_call 85;refine (partOf_calls _ _ _ _).mono ?_;rintro e w' ⟨rfl,rfl⟩))
     go_ret2
     exact ⟨rfl,rfl⟩
  ·have E:M.far half wide=wide-half:=by unfold M.far;split<;>omega
   unfold M.wallA M.wallP
   rw [E,EA]
   clear E
   by_cases c1:at_<half
   ·rw [if_pos c1,if_pos c1]
    go_enter Tryz.func61,Tryz.ntmps61
    go_wp2_with (first|(go_at_call 64;refine (withinOf_calls _ _ _ bO bO).mono ?_;rintro e w' ⟨rfl,rfl⟩)|(go_at_call 85;refine (partOf_calls _ _ _ _).mono ?_;rintro e w' ⟨rfl,rfl⟩))
    go_ret2
    exact ⟨rfl,rfl⟩
   ·rw [if_neg c1,if_neg c1]
    by_cases c2:wide-half<at_
    ·rw [if_pos c2,if_pos c2]
     go_enter Tryz.func61,Tryz.ntmps61
     go_wp2_with (first|(go_at_call 64;refine (withinOf_calls _ _ _ bO bO).mono ?_;rintro e w' ⟨rfl,rfl⟩)|(go_at_call 85;refine (partOf_calls _ _ _ _).mono ?_;rintro e w' ⟨rfl,rfl⟩))
     go_ret2
     exact ⟨rfl,rfl⟩
    ·rw [if_neg c2,if_neg c2]
     go_enter Tryz.func61,Tryz.ntmps61
     go_wp2_with (first|(go_at_call 64;refine (withinOf_calls _ _ _ bO bO).mono ?_;rintro e w' ⟨rfl,rfl⟩)|(go_at_call 85;refine (partOf_calls _ _ _ _).mono ?_;rintro e w' ⟨rfl,rfl⟩))
     go_ret2
     exact ⟨rfl,rfl⟩
end Go.Proofs.YtemkbjaojinaoaaGreat
