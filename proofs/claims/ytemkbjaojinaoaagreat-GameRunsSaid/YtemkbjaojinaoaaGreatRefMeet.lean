/- The contract of the document's MeetRows where nothing moves. Condition: numbers of 64 bits. -/
import Derived.Test.YtemkbjaojinaoaaGreatShort
import Derived.Test.YtemkbjaojinaoaaGreatBagM2
import Derived.Test.YtemkbjaojinaoaaGreatBagMa
set_option linter.unusedVariables false
set_option linter.unusedSimpArgs false
set_option maxRecDepth 100000
set_option maxHeartbeats 4000000
namespace Go.Proofs.YtemkbjaojinaoaaGreat
open Go.RowKit
theorem isBody_yes (r:M.Row) (w:World) (hb:M.body r=true):Calls Tryz.prog 87 #[rowV r] w λe w'=>e=.returned (.bool true)/\Below w.heap.size w w':=by
 rw [←hb];exact isBody_calls r w
theorem isBody_no (r:M.Row) (w:World) (hb:M.body r=false):Calls Tryz.prog 87 #[rowV r] w λe w'=>e=.returned (.bool false)/\Below w.heap.size w w':=by
 rw [←hb];exact isBody_calls r w
theorem rmeet_bad1 (a b:M.Row) (w:World) (h1:M.body a=false):
  Calls Tryz.prog 60 #[rowV a,rowV b] w λe w'=>e=.returned (.tuple #[rowV a,rowV b,.bool false])/\Below w.heap.size w w':=by
 have HA:=hI (λW=>isBody_no a W h1)
 clear h1
 go_enter Tryz.func60,Tryz.ntmps60
 go_wp2_with (first|(go_at_call 87;with_reducible refine (HA.out _).mono ?_;rintro e w1 ⟨rfl,hb1⟩;obtain ⟨hc1,hf1⟩:=bcell hb1;have hz1:=hb1.size;(try simp at hz1);have f1_0:w.heap.size<w1.heap.size:=bO;have g1_0:w.heap.size<w.heap.size+1+1+1+1:=bO;have f1_1:w.heap.size+1<w1.heap.size:=bO;have g1_1:w.heap.size+1<w.heap.size+1+1+1+1:=bO;have f1_2:w.heap.size+1+1<w1.heap.size:=bO;have g1_2:w.heap.size+1+1<w.heap.size+1+1+1+1:=bO;have f1_3:w.heap.size+1+1+1<w1.heap.size:=bO;have g1_3:w.heap.size+1+1+1<w.heap.size+1+1+1+1:=bO))
 go_region
 go_wp2
 refine bodyPost_ret (v:=.tuple #[rowV a,rowV b,.bool false]) ?_ rfl ⟨rfl,?_⟩
 ·simp only [results,Tryz.results60]
  go_simp
 ·have k:=(((((Below.refl _ w).alloc lO _).alloc lO _).alloc lO _).alloc lO _).trans (hb1.mono sid9)
  refine Below.drew ?_
  repeat first|with_reducible exact k|with_reducible apply Below.setCell (hp:=sid9)
theorem rmeet_bad2 (a b:M.Row) (w:World) (h1:M.body a=true) (h2:M.body b=false):
  Calls Tryz.prog 60 #[rowV a,rowV b] w λe w'=>e=.returned (.tuple #[rowV a,rowV b,.bool false])/\Below w.heap.size w w':=by
 have HA:=hI (λW=>isBody_yes a W h1)
 have HB:=hI (λW=>isBody_no b W h2)
 clear h1 h2
 go_enter Tryz.func60,Tryz.ntmps60
 go_wp2_with (first|(go_at_call 87;with_reducible refine (HA.out _).mono ?_;rintro e w1 ⟨rfl,hb1⟩;obtain ⟨hc1,hf1⟩:=bcell hb1;have hz1:=hb1.size;(try simp at hz1);have f1_0:w.heap.size<w1.heap.size:=bO;have g1_0:w.heap.size<w.heap.size+1+1+1+1:=bO;have f1_1:w.heap.size+1<w1.heap.size:=bO;have g1_1:w.heap.size+1<w.heap.size+1+1+1+1:=bO;have f1_2:w.heap.size+1+1<w1.heap.size:=bO;have g1_2:w.heap.size+1+1<w.heap.size+1+1+1+1:=bO;have f1_3:w.heap.size+1+1+1<w1.heap.size:=bO;have g1_3:w.heap.size+1+1+1<w.heap.size+1+1+1+1:=bO)|(go_at_call 87;with_reducible refine (HB.out _).mono ?_;rintro e w2 ⟨rfl,hb2⟩;obtain ⟨hc2,hf2⟩:=bcell hb2;have hz2:=hb2.size;(try simp at hz2);have f2_0:w.heap.size<w2.heap.size:=bO;have f2_1:w.heap.size+1<w2.heap.size:=bO;have f2_2:w.heap.size+1+1<w2.heap.size:=bO;have f2_3:w.heap.size+1+1+1<w2.heap.size:=bO))
 go_region
 go_wp2
 refine bodyPost_ret (v:=.tuple #[rowV a,rowV b,.bool false]) ?_ rfl ⟨rfl,?_⟩
 ·simp only [results,Tryz.results60]
  go_simp
 ·have k:=((((((Below.refl _ w).alloc lO _).alloc lO _).alloc lO _).alloc lO _).trans (hb1.mono sid9)).trans (hb2.mono sid9)
  refine Below.drew ?_
  repeat first|with_reducible exact k|with_reducible apply Below.setCell (hp:=sid9)
theorem rmeet_bad3 (a b:M.Row) (w:World) (h1:M.body a=true) (h2:M.body b=true) (h3:M.depth a.W b.W a.X b.X<1):
  Calls Tryz.prog 60 #[rowV a,rowV b] w λe w'=>e=.returned (.tuple #[rowV a,rowV b,.bool false])/\Below w.heap.size w w':=by
 have HA:=hI (λW=>isBody_yes a W h1)
 have HB:=hI (λW=>isBody_yes b W h2)
 have HD:=hI (λW=>depthOf_calls a b W (mid_of_body h1) (mid_of_body h2))
 clear h1 h2
 go_enter Tryz.func60,Tryz.ntmps60
 go_wp2_with (first|(go_at_call 87;with_reducible refine (HA.out _).mono ?_;rintro e w1 ⟨rfl,hb1⟩;obtain ⟨hc1,hf1⟩:=bcell hb1;have hz1:=hb1.size;(try simp at hz1);have f1_0:w.heap.size<w1.heap.size:=bO;have g1_0:w.heap.size<w.heap.size+1+1+1+1:=bO;have f1_1:w.heap.size+1<w1.heap.size:=bO;have g1_1:w.heap.size+1<w.heap.size+1+1+1+1:=bO;have f1_2:w.heap.size+1+1<w1.heap.size:=bO;have g1_2:w.heap.size+1+1<w.heap.size+1+1+1+1:=bO;have f1_3:w.heap.size+1+1+1<w1.heap.size:=bO;have g1_3:w.heap.size+1+1+1<w.heap.size+1+1+1+1:=bO)|(go_at_call 87;with_reducible refine (HB.out _).mono ?_;rintro e w2 ⟨rfl,hb2⟩;obtain ⟨hc2,hf2⟩:=bcell hb2;have hz2:=hb2.size;(try simp at hz2);have f2_0:w.heap.size<w2.heap.size:=bO;have f2_1:w.heap.size+1<w2.heap.size:=bO;have f2_2:w.heap.size+1+1<w2.heap.size:=bO;have f2_3:w.heap.size+1+1+1<w2.heap.size:=bO)|(go_at_call 88;refine (HD.out _).mono ?_;rintro e w3 ⟨rfl,hb3⟩;obtain ⟨hc3,hf3⟩:=bcell hb3;have hz3:=hb3.size;(try simp at hz3);have f3_0:w.heap.size<w3.heap.size:=bO;have f3_1:w.heap.size+1<w3.heap.size:=bO;have f3_2:w.heap.size+1+1<w3.heap.size:=bO;have f3_3:w.heap.size+1+1+1<w3.heap.size:=bO))
 go_region
 go_wp2
 refine bodyPost_ret (v:=.tuple #[rowV a,rowV b,.bool false]) ?_ rfl ⟨rfl,?_⟩
 ·simp only [results,Tryz.results60]
  go_simp
 ·have k:=(((((((Below.refl _ w).alloc lO _).alloc lO _).alloc lO _).alloc lO _).trans (hb1.mono sid9)).trans (hb2.mono sid9)).trans (hb3.mono sid9)
  refine Below.drew ?_
  repeat first|with_reducible exact k|with_reducible apply Below.setCell (hp:=sid9)
theorem rmeet_bad4 (a b:M.Row) (w:World) (h1:M.body a=true) (h2:M.body b=true) (h3:1<=M.depth a.W b.W a.X b.X) (h4:M.depth a.H b.H a.Y b.Y<1):
  Calls Tryz.prog 60 #[rowV a,rowV b] w λe w'=>e=.returned (.tuple #[rowV a,rowV b,.bool false])/\Below w.heap.size w w':=by
 have HA:=hI (λW=>isBody_yes a W h1)
 have HB:=hI (λW=>isBody_yes b W h2)
 have HD:=hI (λW=>depthOf_calls a b W (mid_of_body h1) (mid_of_body h2))
 clear h1 h2
 go_enter Tryz.func60,Tryz.ntmps60
 go_wp2_with (first|(go_at_call 87;with_reducible refine (HA.out _).mono ?_;rintro e w1 ⟨rfl,hb1⟩;obtain ⟨hc1,hf1⟩:=bcell hb1;have hz1:=hb1.size;(try simp at hz1);have f1_0:w.heap.size<w1.heap.size:=bO;have g1_0:w.heap.size<w.heap.size+1+1+1+1:=bO;have f1_1:w.heap.size+1<w1.heap.size:=bO;have g1_1:w.heap.size+1<w.heap.size+1+1+1+1:=bO;have f1_2:w.heap.size+1+1<w1.heap.size:=bO;have g1_2:w.heap.size+1+1<w.heap.size+1+1+1+1:=bO;have f1_3:w.heap.size+1+1+1<w1.heap.size:=bO;have g1_3:w.heap.size+1+1+1<w.heap.size+1+1+1+1:=bO)|(go_at_call 87;with_reducible refine (HB.out _).mono ?_;rintro e w2 ⟨rfl,hb2⟩;obtain ⟨hc2,hf2⟩:=bcell hb2;have hz2:=hb2.size;(try simp at hz2);have f2_0:w.heap.size<w2.heap.size:=bO;have f2_1:w.heap.size+1<w2.heap.size:=bO;have f2_2:w.heap.size+1+1<w2.heap.size:=bO;have f2_3:w.heap.size+1+1+1<w2.heap.size:=bO)|(go_at_call 88;refine (HD.out _).mono ?_;rintro e w3 ⟨rfl,hb3⟩;obtain ⟨hc3,hf3⟩:=bcell hb3;have hz3:=hb3.size;(try simp at hz3);have f3_0:w.heap.size<w3.heap.size:=bO;have f3_1:w.heap.size+1<w3.heap.size:=bO;have f3_2:w.heap.size+1+1<w3.heap.size:=bO;have f3_3:w.heap.size+1+1+1<w3.heap.size:=bO))
 go_region
 go_wp2
 refine bodyPost_ret (v:=.tuple #[rowV a,rowV b,.bool false]) ?_ rfl ⟨rfl,?_⟩
 ·simp only [results,Tryz.results60]
  go_simp
 ·have k:=(((((((Below.refl _ w).alloc lO _).alloc lO _).alloc lO _).alloc lO _).trans (hb1.mono sid9)).trans (hb2.mono sid9)).trans (hb3.mono sid9)
  refine Below.drew ?_
  repeat first|with_reducible exact k|with_reducible apply Below.setCell (hp:=sid9)
theorem rmeet_fixed (a b:M.Row) (w:World) (h1:M.body a=true) (h2:M.body b=true) (h3:1<=M.depth a.W b.W a.X b.X) (h4:1<=M.depth a.H b.H a.Y b.Y) (h5:a.M=0) (h6:b.M=0):
  Calls Tryz.prog 60 #[rowV a,rowV b] w λe w'=>e=.returned (.tuple #[rowV a,rowV b,.bool true])/\Below w.heap.size w w':=by
 have g5:0<=a.M/\a.M<=0:=by omega
 have g6:0<=b.M/\b.M<=0:=by omega
 clear h5 h6
 have HA:=hI (λW=>isBody_yes a W h1)
 have HB:=hI (λW=>isBody_yes b W h2)
 have HD:=hI (λW=>depthOf_calls a b W (mid_of_body h1) (mid_of_body h2))
 clear h1 h2
 go_enter Tryz.func60,Tryz.ntmps60
 go_wp2_with (first|(go_at_call 87;with_reducible refine (HA.out _).mono ?_;rintro e w1 ⟨rfl,hb1⟩;obtain ⟨hc1,hf1⟩:=bcell hb1;have hz1:=hb1.size;(try simp at hz1);have f1_0:w.heap.size<w1.heap.size:=bO;have g1_0:w.heap.size<w.heap.size+1+1+1+1:=bO;have f1_1:w.heap.size+1<w1.heap.size:=bO;have g1_1:w.heap.size+1<w.heap.size+1+1+1+1:=bO;have f1_2:w.heap.size+1+1<w1.heap.size:=bO;have g1_2:w.heap.size+1+1<w.heap.size+1+1+1+1:=bO;have f1_3:w.heap.size+1+1+1<w1.heap.size:=bO;have g1_3:w.heap.size+1+1+1<w.heap.size+1+1+1+1:=bO)|(go_at_call 87;with_reducible refine (HB.out _).mono ?_;rintro e w2 ⟨rfl,hb2⟩;obtain ⟨hc2,hf2⟩:=bcell hb2;have hz2:=hb2.size;(try simp at hz2);have f2_0:w.heap.size<w2.heap.size:=bO;have f2_1:w.heap.size+1<w2.heap.size:=bO;have f2_2:w.heap.size+1+1<w2.heap.size:=bO;have f2_3:w.heap.size+1+1+1<w2.heap.size:=bO)|(go_at_call 88;refine (HD.out _).mono ?_;rintro e w3 ⟨rfl,hb3⟩;obtain ⟨hc3,hf3⟩:=bcell hb3;have hz3:=hb3.size;(try simp at hz3);have f3_0:w.heap.size<w3.heap.size:=bO;have f3_1:w.heap.size+1<w3.heap.size:=bO;have f3_2:w.heap.size+1+1<w3.heap.size:=bO;have f3_3:w.heap.size+1+1+1<w3.heap.size:=bO))
 go_region
 go_wp2
 refine bodyPost_ret (v:=.tuple #[rowV a,rowV b,.bool true]) ?_ rfl ⟨rfl,?_⟩
 ·simp only [results,Tryz.results60]
  go_simp
 ·have k:=(((((((Below.refl _ w).alloc lO _).alloc lO _).alloc lO _).alloc lO _).trans (hb1.mono sid9)).trans (hb2.mono sid9)).trans (hb3.mono sid9)
  refine Below.drew ?_
  repeat first|with_reducible exact k|with_reducible apply Below.setCell (hp:=sid9)
end Go.Proofs.YtemkbjaojinaoaaGreat
