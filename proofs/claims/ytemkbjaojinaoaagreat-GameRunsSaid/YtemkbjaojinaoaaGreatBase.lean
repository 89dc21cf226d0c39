/- Words for the frames of all statements: opening an argument to plain values, and reading it again behind a call that writes nothing old. No condition. -/
import Derived.Test.YtemkbjaojinaoaaGreatBagP
import Derived.Test.YtemkbjaojinaoaaGreatRows
import Derived.WalkKit
import Derived.ProofKit
import Derived.OpenShut
import Derived.ChangeOld
import Derived.Below
import Derived.Lib.SmallJoins
import Derived.Deep.Fields
import Derived.Carry
set_option linter.unusedVariables false
set_option linter.unusedSimpArgs false
set_option maxRecDepth 100000
namespace Go.Proofs.YtemkbjaojinaoaaGreat
open Go.ChangeShapes Go.WideShapes Go.ChangeAt Go.RowKit Go.Deep
theorem own:ownKnob Tryz.prog.godebug=none:=by kernel_rfl
theorem laidOut:laidOutB Tryz.prog=true:=by kernel_rfl
def I64 (n:Int):Prop:=-9223372036854775808<=n/\n<=9223372036854775807
theorem i64_of_wf {n:Int} (h:(Lit.int .i64 n).wf=true):I64 n:=by
 simp [Lit.wf,IntKind.min,IntKind.max,IntKind.signed,IntKind.bits] at h
 exact ⟨h.1,h.2⟩
section
variable {H:Type} {enc:TypeId×Value->H} {P:Program} {w:World} {base:Nat} {spare:Nat->Bool} {held:Bool}
theorem open_i64 {t:TypeId} {r:Reach} {b0:Nat} {v:Value} {d:DataW H} {p:List MemPlace} (ht:P.underlying t=some (.int .i64))
  (hv:Value.okWide P w r b0 t v) (h:DataW.Trod enc P w base spare held t v d p):∃a,v=.int .i64 a/\I64 a:=by
 obtain ⟨a,rfl,_,_,wa⟩:=open_int ht hv h
 exact ⟨a,rfl,i64_of_wf wa⟩
theorem cell_i64 {t:TypeId} {n:Nat} {v:Value} {y:DataW H×List MemPlace} (ht:P.underlying t=some (.int .i64))
  (h:DataW.trod enc P w base spare held n t [v]=some y):∃a,v=.int .i64 a/\I64 a:=by
 obtain ⟨a,hc,_,wa⟩:=DataW.trod_int ht h
 simp only [List.cons.injEq,and_true] at hc
 exact ⟨a,hc,i64_of_wf wa⟩
end
abbrev rowV (r:M.Row):Value:=.agg #[.int .i64 r.X,.int .i64 r.Y,.int .i64 r.PX,.int .i64 r.PY,.int .i64 r.W,.int .i64 r.H,.int .i64 r.M,.int .i64 r.R]
def RowOk (r:M.Row):Prop:=(I64 r.X/\I64 r.Y)/\(I64 r.PX/\I64 r.PY)/\(I64 r.W/\I64 r.H)/\(I64 r.M/\I64 r.R)
theorem eight {l:List Value} (h:l.length=8):∃a b c d e f g i,l=[a,b,c,d,e,f,g,i]:=by
 match l,h with
 |[a,b,c,d,e,f,g,i],_=>exact ⟨a,b,c,d,e,f,g,i,rfl⟩
section
variable {H:Type} {enc:TypeId×Value->H} {w:World} {base:Nat} {spare:Nat->Bool} {held:Bool}
theorem row_of_cells {cs:List Value} {n:Nat} {y:DataW H×List MemPlace} (h:DataW.trod enc Tryz.prog w base spare held n 38 cs=some y):
  ∃r:M.Row,cs=[.int .i64 r.X,.int .i64 r.Y,.int .i64 r.PX,.int .i64 r.PY,.int .i64 r.W,.int .i64 r.H,.int .i64 r.M,.int .i64 r.R]/\RowOk r:=by
 obtain ⟨xs,n,_,_,hlen,hxl,hg⟩:=DataW.trod_struct Tryz.underlying38 h
 have hc:Tryz.prog.cellsOf 38=8:=by kernel_rfl
 have c1:Tryz.prog.cellsOf 3=1:=by kernel_rfl
 rw [hc] at hlen
 obtain ⟨a0,a1,a2,a3,a4,a5,a6,a7,rfl⟩:=eight hlen
 obtain ⟨b0,b1,b2,b3,b4,b5,b6,b7,rfl⟩:∃a b c d e f g i,xs=[a,b,c,d,e,f,g,i]:=by
  match xs,hxl with
  |[a,b,c,d,e,f,g,i],_=>exact ⟨a,b,c,d,e,f,g,i,rfl⟩
 obtain ⟨x0,rfl,h0⟩:=cell_i64 Tryz.underlying3 (by simpa [c1] using hg 0 _ rfl)
 obtain ⟨x1,rfl,h1⟩:=cell_i64 Tryz.underlying3 (by simpa [c1] using hg 1 _ rfl)
 obtain ⟨x2,rfl,h2⟩:=cell_i64 Tryz.underlying3 (by simpa [c1] using hg 2 _ rfl)
 obtain ⟨x3,rfl,h3⟩:=cell_i64 Tryz.underlying3 (by simpa [c1] using hg 3 _ rfl)
 obtain ⟨x4,rfl,h4⟩:=cell_i64 Tryz.underlying3 (by simpa [c1] using hg 4 _ rfl)
 obtain ⟨x5,rfl,h5⟩:=cell_i64 Tryz.underlying3 (by simpa [c1] using hg 5 _ rfl)
 obtain ⟨x6,rfl,h6⟩:=cell_i64 Tryz.underlying3 (by simpa [c1] using hg 6 _ rfl)
 obtain ⟨x7,rfl,h7⟩:=cell_i64 Tryz.underlying3 (by simpa [c1] using hg 7 _ rfl)
 exact ⟨⟨x0,x1,x2,x3,x4,x5,x6,x7⟩,rfl,⟨h0,h1⟩,⟨h2,h3⟩,⟨h4,h5⟩,⟨h6,h7⟩⟩
end
end Go.Proofs.YtemkbjaojinaoaaGreat
