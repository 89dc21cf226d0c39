/- Several small texts in one. No condition of its own: each part says its own. -/
import Derived.Test.YtemkbjaojinaoaaGreatShort
import Derived.Test.YtemkbjaojinaoaaGreatBagW
import Derived.SizedLaws
set_option linter.unusedVariables false
set_option linter.unusedSimpArgs false
set_option maxRecDepth 100000
namespace Go.Proofs.YtemkbjaojinaoaaGreat
open Go.ChangeShapes Go.WideShapes Go.ChangeAt Go.RowKit Go.Deep
def Light {H:Type} (t:TypeId) (d:DataW H):Prop:=∀n∈d.weights Tryz.prog t,n<=reachBytes
section
variable {H:Type} {enc:TypeId×Value->H} {w:World} {spare:Nat->Bool} {held:Bool} {fuel:Nat}
theorem mem_weightsAll {P:Program} {e:TypeId}:∀{ds:List (DataW H)} {d:DataW H},d∈ds->∀n∈d.weights P e,n∈DataW.weightsAll P e ds
 |d0::ds,d,h,n,hn=>by
  simp only [DataW.weightsAll,List.mem_append]
  rcases List.mem_cons.1 h with rfl|h
  ·exact Or.inl hn
  ·exact Or.inr (mem_weightsAll h n hn)
theorem light_slice {t e:TypeId} {es sp:List (DataW H)} (hu:Tryz.prog.underlying t=some (.slice e)) (h:Light t (DataW.slice es sp)):es.length*Tryz.prog.bytesOf e<=reachBytes/\∀d∈es,Light e d:=by
 constructor
 ·have:=h ((es.length+sp.length)*Tryz.prog.bytesOf e) (by simp [DataW.weights,hu])
  exact Nat.le_trans (Nat.mul_le_mul_right _ bO) this
 ·intro d hd n hn
  refine h n ?_
  simp only [DataW.weights,hu,List.mem_cons,List.mem_append]
  exact Or.inr (Or.inl (mem_weightsAll hd n hn))
theorem light_len {t e:TypeId} {v:Value} {a:Option Addr} {n cap:Nat} {x:DataW H×List MemPlace} (hu:Tryz.prog.underlying t=some (.slice e)) (h:DataW.trod enc Tryz.prog w 0 spare held fuel t [v]=some x) (hv:v=.slice a n cap) (hw:Light t x.1):n*Tryz.prog.bytesOf e<=reachBytes:=by
 subst hv
 rcases open_slice hu h with ⟨he,_⟩|⟨a,len,cap,m,k,D,Pl,he,hb,hl,hm,hmm,hxe,hx⟩
 ·simp only [List.cons.injEq,Value.slice.injEq,and_true] at he
  obtain ⟨rfl,rfl,rfl⟩:=he
  omega
 ·simp only [List.cons.injEq,Value.slice.injEq,and_true] at he
  obtain ⟨rfl,rfl,rfl⟩:=he
  subst hxe
  have:=(light_slice hu hw).1
  simpa using this
theorem light_arg {ts:List TypeId} {ds:List (DataW H)} (h:(DataW.weightsEach Tryz.prog ts ds).all (· <=reachBytes)=true) {j:Nat} {t:TypeId} {d:DataW H} (ht:ts[j]?=some t) (hd:ds[j]?=some d):Light t d:=by
 intro n hn
 have:=List.all_eq_true.1 h _ (DataW.weights_mem_each ht hd n hn)
 simpa using this
end
theorem sized_acts {H:Type} {enc:TypeId×Value->H} {w:World} {spare:Nat->Bool} {held:Bool} {v:Value} {l:List M.Act} {d:DataW H} {p:List MemPlace} (hv:ActsAt w 0 v l) (h:DataW.Trod enc Tryz.prog w 0 spare held 22 v d p) (hw:Light 22 d):l.length*136<=140737488351232:=by
 obtain ⟨a,cap,rfl⟩:=hv.val
 obtain ⟨fuel,hf⟩:=h
 have hf2:DataW.trod enc Tryz.prog w 0 spare held fuel 22 [.slice a l.length cap]=some (d,p):=by simpa [Value.cells] using hf
 have b:Tryz.prog.bytesOf 42=136:=by kernel_rfl
 have:=light_len Tryz.underlying22 hf2 rfl hw
 rw [b] at this
 exact this
end Go.Proofs.YtemkbjaojinaoaaGreat
