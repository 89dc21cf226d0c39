/- Several small texts in one. No condition of its own: each part says its own. -/
import Derived.Test.YtemkbjaojinaoaaGreatShort
import Derived.Test.YtemkbjaojinaoaaGreatMem
import Derived.Test.YtemkbjaojinaoaaGreatFix
import Derived.Test.YtemkbjaojinaoaaGreatBagP
set_option linter.unusedVariables false
set_option linter.unusedSimpArgs false
set_option maxRecDepth 100000
namespace Go.Proofs.YtemkbjaojinaoaaGreat
open Go.RowKit
theorem number_calls (r:M.Row) (w:World) (h:RowOk r):
  Calls Tryz.prog 124 #[rowV r] w λe w'=>e=.returned (.bool (M.number r))/\Below w.heap.size w w':=by
 have heq:∀(a b c d e f g i a' b' c' d':Int) (w:World),(binOp .eql 38 (.agg #[.int .i64 a,.int .i64 b,.int .i64 c,.int .i64 d,.int .i64 e,.int .i64 f,.int .i64 g,.int .i64 i]) (.agg #[.int .i64 a',.int .i64 b',.int .i64 c',.int .i64 d',.int .i64 e,.int .i64 f,.int .i64 g,.int .i64 i])).run Tryz.prog w=.ok (.bool (decide (a=a'/\b=b'/\c=c'/\d=d'))) w:=by
  intro a b c d e f g i a' b' c' d' w
  have hS:Tryz.prog.underlying 38=some (.struct (Tryz.prog.fieldsOf 38)):=by kernel_rfl
  have hp:Tryz.prog.stoodInHeld 38=false:=by kernel_rfl
  rw [run_eql_struct,show (10000:Nat)=9999+1 from rfl,run_equalIn_agg w 9999 38 _ _ hS hp]
  simp only [Program.fieldsOf,Tryz.underlying38]
  go_simp
  by_cases h1:a=a'<;>by_cases h2:b=b'<;>by_cases h3:c=c'<;>by_cases h4:d=d'<;>simp [h1,h2,h3,h4]
 go_enter Tryz.func124,Tryz.ntmps124
 go_wp2
 go_quiet ((go_at_call 76;exact quiet_left (within_calls _ _ _ bO bO)))
 go_wp2
 go_ret
 exact ⟨ret_bool (M.number_eq r).symm,below_drewN ((Below.refl _ _).alloc lR _) _⟩
theorem good_calls (r:M.Row) (w:World) (h:RowOk r):
  Calls Tryz.prog 104 #[rowV r] w λe w'=>e=.returned (.bool (M.body r))/\Below w.heap.size w w':=by
 have hb:M.body r=M.body r:=rfl
 go_enter Tryz.func104,Tryz.ntmps104
 go_wp2_with (go_at_call 124;refine (number_calls _ _ h).mono ?_;rintro e w1 ⟨rfl,hb1⟩;obtain ⟨hc1,hf1⟩:=bcell hb1)
 all_goals
  go_ret
  refine ⟨ret_bool ?_,((Below.refl _ _).alloc lR _).trans (hb1.mono sS)⟩
  clear hc1 hf1 hb1 h
  unfold M.body
  generalize M.number r=nb at *
  rw [Bool.eq_iff_iff]
  simp only [Bool.and_eq_true,Bool.or_eq_true,decide_eq_true_eq,beq_iff_eq]
  first
   |omega
   |(simp_all;done)
   |(simp_all;omega)
theorem speed_calls (r:M.Row) (w:World):
  Calls Tryz.prog 77 #[rowV r] w λe w'=>e=.returned (.tuple #[.int .i64 (M.part r.PX 1 r.M),.int .i64 (M.part r.PY 1 r.M)])/\Below w.heap.size w w':=by
 go_enter Tryz.func77,Tryz.ntmps77
 go_wp2
 go_quiet ((go_at_call 92;exact quiet_left (part_calls _ _ _ _)))
 go_wp2
 go_ret2
 exact ⟨rfl,below_drewN ((Below.refl _ _).alloc lR _) _⟩
theorem abs_calls (x:Int) (w:World) (h1:-9223372036854775807<=x) (h2:x<=9223372036854775807):
  Calls Tryz.prog 106 #[.int .i64 x] w λe w'=>e=.returned (.int .i64 (M.abs x))/\w=w':=by
 go_enter Tryz.func106,Tryz.ntmps106
 go_wp2
 all_goals (go_ret;refine ⟨ret_int ?_,rfl⟩;unfold M.abs;(repeat' split)<;>omega)
def RowMid (r:M.Row):Prop:=(-16777216<=r.X/\r.X<=16777216)/\(-16777216<=r.Y/\r.Y<=16777216)/\(-16777216<=r.W/\r.W<=16777216)/\(-16777216<=r.H/\r.H<=16777216)
theorem depth_calls (a b:M.Row) (w:World) (ha:RowMid a) (hb:RowMid b):
  Calls Tryz.prog 103 #[rowV a,rowV b] w λe w'=>e=.returned (.tuple #[.int .i64 (M.depth a.W b.W a.X b.X),.int .i64 (M.depth a.H b.H a.Y b.Y)])/\Below w.heap.size w w':=by
 obtain ⟨ha1,ha2,ha3,ha4⟩:=ha
 obtain ⟨hb1,hb2,hb3,hb4⟩:=hb
 have s1:-33554432<=M.abs (a.X-b.X)/\M.abs (a.X-b.X)<=33554432:=by unfold M.abs;split<;>omega
 have s2:-33554432<=M.abs (a.Y-b.Y)/\M.abs (a.Y-b.Y)<=33554432:=by unfold M.abs;split<;>omega
 go_enter Tryz.func103,Tryz.ntmps103
 go_wp2
 go_quiet ((go_at_call 106;exact quiet_left (abs_calls _ _ bO bO)))
 go_wp2
 go_ret2
 exact ⟨rfl,below_drewN (((Below.refl _ _).alloc lR _).alloc sS _) _⟩
def absW (x:Int):Int:=if wrap64 (-x)>x then wrap64 (-x) else x
theorem absW_calls (x:Int) (w:World):
  Calls Tryz.prog 106 #[.int .i64 x] w λe w'=>e=.returned (.int .i64 (absW x))/\w=w':=by
 go_enter Tryz.func106,Tryz.ntmps106
 go_wp2
 all_goals (go_ret;refine ⟨ret_int ?_,rfl⟩;unfold absW;(repeat' split)<;>omega)
theorem depth_any (a b:M.Row) (w:World):
  Calls Tryz.prog 103 #[rowV a,rowV b] w λe w'=>(∃d1 d2:Int,e=.returned (.tuple #[.int .i64 d1,.int .i64 d2]))/\Below w.heap.size w w':=by
 go_enter Tryz.func103,Tryz.ntmps103
 go_wp2
 go_quiet ((go_at_call 106;exact quiet_left (absW_calls _ _)))
 go_wp2
 go_ret2
 exact ⟨⟨_,_,rfl⟩,below_drewN (((Below.refl _ _).alloc lR _).alloc sS _) _⟩
theorem weight_calls (a b:M.Row) (w:World) (ha:0<=a.M/\a.M<=9) (hb:0<=b.M/\b.M<=9):
  Calls Tryz.prog 125 #[rowV a,rowV b] w λe w'=>e=.returned (.tuple #[.int .i64 (M.mOf a.M b.M),.int .i64 (M.nOf a.M b.M)])/\Below w.heap.size w w':=by
 have hm:=M.mul_bd a.M b.M 9 9 bO bO bO bO
 have fin:∀(o1 o2:Obj),Below w.heap.size w ((w.alloc o1).alloc o2):=λo1 o2=>((Below.refl _ _).alloc lR _).alloc sS _
 have Hfin:=hI fin
 clear fin
 by_cases c1:a.M=0
 ·have e1:(a.M==0)=true:=by simp [c1]
  have E1:M.mOf a.M b.M=b.M:=by unfold M.mOf;rw [if_pos c1]
  have E2:M.nOf a.M b.M=1:=by unfold M.nOf;rw [if_pos c1]
  rw [E1,E2]
  clear c1 E1 E2
  go_enter Tryz.func125,Tryz.ntmps125
  go_wp2
  go_ret2
  exact ⟨rfl,Hfin.out _ _⟩
 ·have e1:(a.M==0)=false:=by simp [c1]
  by_cases c2:b.M=0
  ·have e2:(b.M==0)=true:=by simp [c2]
   have E1:M.mOf a.M b.M=a.M:=by unfold M.mOf;rw [if_neg c1,if_pos c2]
   have E2:M.nOf a.M b.M=1:=by unfold M.nOf;rw [if_neg c1,if_pos c2]
   rw [E1,E2]
   clear c2 c1 E1 E2
   go_enter Tryz.func125,Tryz.ntmps125
   go_wp2
   go_ret2
   exact ⟨rfl,Hfin.out _ _⟩
  ·have e2:(b.M==0)=false:=by simp [c2]
   have E1:M.mOf a.M b.M=a.M*b.M:=by unfold M.mOf;rw [if_neg c1,if_neg c2]
   have E2:M.nOf a.M b.M=a.M+b.M:=by unfold M.nOf;rw [if_neg c1,if_neg c2]
   rw [E1,E2]
   clear c2 c1 E1 E2
   go_enter Tryz.func125,Tryz.ntmps125
   go_wp2
   go_quiet (fail)
   go_wp2
   go_ret2
   exact ⟨rfl,below_drewN (Hfin.out _ _) _⟩
def Mid (n:Int):Prop:=-268435456<=n/\n<=268435456
theorem wall_calls (at_ push half wide back:Int) (w:World) (h1:Mid at_) (h2:Mid push) (h3:Mid half) (h4:Mid wide):
  Calls Tryz.prog 82 #[.int .i64 at_,.int .i64 push,.int .i64 half,.int .i64 wide,.int .i64 back] w λe w'=>
   e=.returned (.tuple #[.int .i64 (M.wallA at_ half wide),.int .i64 (M.wallP at_ push half wide back)])/\w=w':=by
 unfold Mid at *
 have s1:0<=M.abs push/\M.abs push<=268435456:=by unfold M.abs;split<;>omega
 have bp:=M.part_bd (M.abs push) (M.within back 256) 256
 by_cases c0:wide-half<=half
 ·have E:M.far half wide=half:=by unfold M.far;split<;>omega
  unfold M.wallA M.wallP
  rw [E]
  clear E
  by_cases c1:at_<half
  ·rw [if_pos c1,if_pos c1]
   go_enter Tryz.func82,Tryz.ntmps82
   go_wp2_with (first|(go_at_call 106;refine (abs_calls _ _ bO bO).mono ?_;rintro e w' ⟨rfl,rfl⟩)|(go_at_call 76;refine (within_calls _ _ _ bO bO).mono ?_;rintro e w' ⟨rfl,rfl⟩)|(go_at_call 92;refine (part_calls _ _ _ _).mono ?_;rintro e w' ⟨rfl,rfl⟩))
   go_ret2
   exact ⟨rfl,rfl⟩
  ·rw [if_neg c1,if_neg c1]
   by_cases c2:half<at_
   ·rw [if_pos c2,if_pos c2]
    go_enter Tryz.func82,Tryz.ntmps82
    go_wp2_with (first|(go_at_call 106;refine (abs_calls _ _ bO bO).mono ?_;rintro e w' ⟨rfl,rfl⟩)|(go_at_call 76;refine (within_calls _ _ _ bO bO).mono ?_;rintro e w' ⟨rfl,rfl⟩)|(go_at_call 92;refine (part_calls _ _ _ _).mono ?_;rintro e w' ⟨rfl,rfl⟩))
    go_ret2
    exact ⟨rfl,rfl⟩
   ·rw [if_neg c2,if_neg c2]
    go_enter Tryz.func82,Tryz.ntmps82
    go_wp2_with (first|(go_at_call 106;refine (abs_calls _ _ bO bO).mono ?_;rintro e w' ⟨rfl,rfl⟩)|(go_at_call 76;refine (within_calls _ _ _ bO bO).mono ?_;rintro e w' ⟨rfl,rfl⟩)|(go_at_call 92;refine (part_calls _ _ _ _).mono ?_;rintro e w' ⟨rfl,rfl⟩))
    go_ret2
    exact ⟨rfl,rfl⟩
 ·have E:M.far half wide=wide-half:=by unfold M.far;split<;>omega
  unfold M.wallA M.wallP
  rw [E]
  clear E
  by_cases c1:at_<half
  ·rw [if_pos c1,if_pos c1]
   go_enter Tryz.func82,Tryz.ntmps82
   go_wp2_with (first|(go_at_call 106;refine (abs_calls _ _ bO bO).mono ?_;rintro e w' ⟨rfl,rfl⟩)|(go_at_call 76;refine (within_calls _ _ _ bO bO).mono ?_;rintro e w' ⟨rfl,rfl⟩)|(go_at_call 92;refine (part_calls _ _ _ _).mono ?_;rintro e w' ⟨rfl,rfl⟩))
   go_ret2
   exact ⟨rfl,rfl⟩
  ·rw [if_neg c1,if_neg c1]
   by_cases c2:wide-half<at_
   ·rw [if_pos c2,if_pos c2]
    go_enter Tryz.func82,Tryz.ntmps82
    go_wp2_with (first|(go_at_call 106;refine (abs_calls _ _ bO bO).mono ?_;rintro e w' ⟨rfl,rfl⟩)|(go_at_call 76;refine (within_calls _ _ _ bO bO).mono ?_;rintro e w' ⟨rfl,rfl⟩)|(go_at_call 92;refine (part_calls _ _ _ _).mono ?_;rintro e w' ⟨rfl,rfl⟩))
    go_ret2
    exact ⟨rfl,rfl⟩
   ·rw [if_neg c2,if_neg c2]
    go_enter Tryz.func82,Tryz.ntmps82
    go_wp2_with (first|(go_at_call 106;refine (abs_calls _ _ bO bO).mono ?_;rintro e w' ⟨rfl,rfl⟩)|(go_at_call 76;refine (within_calls _ _ _ bO bO).mono ?_;rintro e w' ⟨rfl,rfl⟩)|(go_at_call 92;refine (part_calls _ _ _ _).mono ?_;rintro e w' ⟨rfl,rfl⟩))
    go_ret2
    exact ⟨rfl,rfl⟩
end Go.Proofs.YtemkbjaojinaoaaGreat
