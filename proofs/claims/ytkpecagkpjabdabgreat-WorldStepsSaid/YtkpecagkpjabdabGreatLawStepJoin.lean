/- Plain: the document's step over things by number is the program's. Condition: a good world; the numbers in order. -/
import Derived.Test.YtkpecagkpjabdabGreatRefStepOf
import Derived.Test.YtkpecagkpjabdabGreatBagM1
namespace Go.Proofs.YtkpecagkpjabdabGreat
open Go.RowKit
set_option linter.unusedVariables false
set_option linter.unusedSimpArgs false
set_option maxRecDepth 100000
namespace M
theorem boxesF_boxes {s : Store} (g : GoodS s) {zs : List Int} (hs : zs.Pairwise (fun a b => leI a b = true)) (hn : zs.Nodup) (hm : ∀ z, z ∈ zs ↔ (at_ s z).isSome = true) : boxesF (at_ s) zs = boxes s := by
  have hq : zs.filter (hasAll (at_ s) 5) = query s 5 := having_query g 5 hs hn hm
  unfold boxesF boxes
  rw [hq]
  apply List.map_congr_left
  intro id hid
  rw [get_at g]
  cases h : at_ s id with
  | none => rfl
  | some t => rfl
theorem s1_same {w : Wd} (g : GoodS w.things) {zs : List Int} (hn : zs.Nodup) (hm : ∀ z, z ∈ zs ↔ (at_ w.things z).isSome = true) : s1 (at_ w.things) zs w.fall = at_ (gone w) :=
  (gone_same g ⟨hn, hm⟩).symm
theorem s2_same {w : Wd} (g : GoodS w.things) {zs : List Int} (hs : zs.Pairwise (fun a b => leI a b = true)) (hn : zs.Nodup) (hm : ∀ z, z ∈ zs ↔ (at_ w.things z).isSome = true) : s2 (at_ w.things) zs w.fall = (at_ (met w).1, (met w).2) := by
  have e1 := s1_same g hn hm
  have hk : ∀ z, z ∈ zs ↔ (at_ (gone w) z).isSome = true := fun z => by rw [hm, ← e1]; unfold s1; rw [foldS_key]
  have e2 := boxesF_boxes (kept_gone g).good hs hn hk
  unfold s2
  rw [e1, e2]
  exact Prod.ext (met_same g).1.symm (met_same g).2.symm
theorem s3_same {w : Wd} (gw : GoodWd w) {zs : List Int} (hs : zs.Pairwise (fun a b => leI a b = true)) (hn : zs.Nodup) (hm : ∀ z, z ∈ zs ↔ (at_ w.things z).isSome = true) : s3 (at_ w.things) zs w.fall w.wide w.high = at_ (ends w) := by
  have e2 := s2_same gw.things hs hn hm
  have hk : ∀ z, z ∈ zs ↔ (at_ (met w).1 z).isSome = true := fun z => by
    have := foldM_key (pairs (boxesF (s1 (at_ w.things) zs w.fall) zs)) (s1 (at_ w.things) zs w.fall, []) z
    rw [show (pairs (boxesF (s1 (at_ w.things) zs w.fall) zs)).foldl metS (s1 (at_ w.things) zs w.fall, []) = s2 (at_ w.things) zs w.fall from rfl, e2] at this
    rw [hm, this]
    unfold s1
    rw [foldS_key]
  unfold s3
  rw [e2]
  exact (ends_same gw ⟨hn, hk⟩).symm
theorem allIds_asc {s : Store} (g : GoodS s) : (allIds s).Pairwise (fun a b => leI a b = true) := (query_asc g 0).imp (fun h => by unfold leI; simp; omega)
end M
/-- the document's step of a good world, its answer named -/
theorem stepOf_good {w : World} {b : Nat} {d : M.Wd} (gw : M.GoodWd d) (h : MapA w b (M.at_ d.things) (M.size d.things)) :
    Calls Tryz.prog 26 #[rwV b d.things.next d.fall d.wide d.high] w fun e w' => ∃ (b' : Nat) (pv : Value), e = .returned (.tuple #[rwV b' d.things.next d.fall d.wide d.high, pv]) ∧ MapA w' b' (M.at_ (M.step d).1.things) (M.size (M.step d).1.things) ∧ w.heap.size ≤ b' ∧
      w'.ownsRow w.heap.size 77 2 pv (M.step d).2.1.length ((M.step d).2.1.flatMap pairL) ∧ Below w.heap.size w w' := by
  have k := stepOf_calls h gw.things.2.2.2.1 (fun id t e => M.at_fits gw.things e) d.things.next d.fall d.wide d.high gw.fall gw.wide gw.high (M.allIds_asc gw.things) (M.allIds_nodup gw.things) (M.allIds_mem gw.things)
  have e1 := M.s3_same gw (M.allIds_asc gw.things) (M.allIds_nodup gw.things) (M.allIds_mem gw.things)
  have e2 := M.s2_same gw.things (M.allIds_asc gw.things) (M.allIds_nodup gw.things) (M.allIds_mem gw.things)
  have e3 := (M.step_kept gw).2.1.size gw.things
  have e4 : M.step d = ({ d with things := M.ends d }, (M.met d).2, 0) := by unfold M.step; rw [if_pos (M.goodW_iff.2 gw)]
  rw [e4] at e3 ⊢
  rw [e1, e2] at k
  simp only at e3 ⊢
  rw [e3]
  exact k
end Go.Proofs.YtkpecagkpjabdabGreat
