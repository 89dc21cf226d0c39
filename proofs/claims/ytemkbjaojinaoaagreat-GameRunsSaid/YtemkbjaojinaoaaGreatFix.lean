/- The contracts of package fix (Within, Add, Part): what each call answers, for all numbers of 64 bits. Condition: most from 0 on. -/
import Derived.Test.YtemkbjaojinaoaaGreatShort
import Derived.Test.YtemkbjaojinaoaaGreatBagP
import Derived.Test.YtemkbjaojinaoaaGreatRows
import Derived.Test.YtemkbjaojinaoaaGreatKit
import Derived.WalkKit
import Derived.Deep.QuietTactic
import Derived.BigQuiet
import Derived.Lib.Hide
set_option linter.unusedVariables false
set_option linter.unusedSimpArgs false
set_option maxRecDepth 100000
namespace Go.Proofs.YtemkbjaojinaoaaGreat
open Go.RowKit
theorem within_calls (n most:Int) (w:World) (h0:0<=most) (h1:most<=9223372036854775807):
  Calls Tryz.prog 76 #[.int .i64 n,.int .i64 most] w λe w'=>e=.returned (.int .i64 (M.within n most))/\w=w':=by
 go_enter Tryz.func76,Tryz.ntmps76
 go_wp2
 all_goals (go_ret;refine ⟨ret_int ?_,rfl⟩;unfold M.within;(repeat' split)<;>omega)
theorem add_calls (a b most:Int) (w:World):
  Calls Tryz.prog 47 #[.int .i64 a,.int .i64 b,.int .i64 most] w λe w'=>e=.returned (.int .i64 (M.add a b most))/\w=w':=by
 have hb:=M.capped_bd most
 have ha:=M.within_bd a (M.capped most) hb.1
 have hc:=M.within_bd b (M.capped most) hb.1
 have hM:M.capped most=M.capped most:=rfl
 generalize hcm:M.capped most=c at *
 have H:=hI hcm
 clear hM
 have hif:(if (if 1099511627776<most then 1099511627776 else most)>0 then (if 1099511627776<most then 1099511627776 else most) else 0)=c:=by
  rw [←hcm];unfold M.capped;(repeat' split)<;>omega
 go_enter Tryz.func47,Tryz.ntmps47
 go_wp2_with (go_at_call 76;refine (within_calls _ _ _ bO bO).mono ?_;rintro e w' ⟨rfl,rfl⟩)
 all_goals (go_ret;refine ⟨ret_int ?_,rfl⟩;unfold M.add;rw [H.out])
theorem part_calls (n a b:Int) (w:World):
  Calls Tryz.prog 92 #[.int .i64 n,.int .i64 a,.int .i64 b] w λe w'=>e=.returned (.int .i64 (M.part n a b))/\w=w':=by
 have h1:=M.within_bd n 268435456 bO
 have h2:=M.within_bd a 268435456 bO
 have h3:=M.within_bd b 268435456 bO
 have hmul:=M.mul_bd (M.within n 268435456) (M.within a 268435456) 268435456 268435456 bO bO bO bO
 have hq:=M.tdiv_bd (M.within n 268435456*M.within a 268435456) (M.within b 268435456) 72057594037927936 bO bO
 by_cases hz:M.within b 268435456=0
 ·have e1:(M.within b 268435456==0)=true:=by simp [hz]
  have E:M.part n a b=0:=by unfold M.part;rw [if_pos hz]
  rw [E]
  clear hz
  go_enter Tryz.func92,Tryz.ntmps92
  go_wp2_with (go_at_call 76;refine (within_calls _ _ _ bO bO).mono ?_;rintro e w' ⟨rfl,rfl⟩)
  go_ret
  exact ⟨rfl,rfl⟩
 ·have e1:(M.within b 268435456==0)=false:=by simp [hz]
  have E:M.part n a b=(M.within n 268435456*M.within a 268435456).tdiv (M.within b 268435456):=by unfold M.part;rw [if_neg hz]
  rw [E]
  go_enter Tryz.func92,Tryz.ntmps92
  go_wp2_with (go_at_call 76;refine (within_calls _ _ _ bO bO).mono ?_;rintro e w' ⟨rfl,rfl⟩)
  go_ret
  exact ⟨rfl,rfl⟩
end Go.Proofs.YtemkbjaojinaoaaGreat
