/- The contracts of the document's Copy and SameThings. Condition: the things lie in memory. -/
import Derived.Test.YtkpecagkpjabdaaMapThing
import Derived.Test.YtkpecagkpjabdaaRowCells
import Derived.Deep.LoopGhost
import Derived.Deep.DeepCutAuto
namespace Go.Proofs.Ytkpecagkpjabdaa
open Go.RowKit
set_option linter.unusedVariables false
set_option linter.unusedSimpArgs false
set_option maxRecDepth 100000
abbrev MapA (w : World) (b : Nat) (f : Int → Option M.Th) (c : Nat) : Prop := MapAt Try.prog 3 w b f c
abbrev RngA (w : World) (b r : Nat) (f : Int → Option M.Th) (c : Nat) (left : Int → Bool) (n : Nat) : Prop := RangeAt Try.prog 3 w b r f c left n
abbrev thC (t : M.Th) : Array Value := #[.int .i64 t.1, .int .i64 t.2.X, .int .i64 t.2.Y, .int .i64 t.2.PX, .int .i64 t.2.PY, .int .i64 t.2.W, .int .i64 t.2.H, .int .i64 t.2.M, .int .i64 t.2.R]
theorem th_zero (w : World) : (zeroValue 62).run Try.prog w = .ok (thV M.th0) w := Try.zeroValue62 w
/-- what has been copied: what is not to come any more -/
def M.come (f : Int → Option M.Th) (left : Int → Bool) : Int → Option M.Th := fun j => if left j = true then none else f j
theorem M.come_start (f : Int → Option M.Th) : M.come f (fun id => (f id).isSome) = fun _ => none := by
  funext j
  unfold M.come
  cases h : f j <;> simp [h]
theorem M.come_step {f : Int → Option M.Th} {left : Int → Bool} {id : Int} {q : M.Th} (hf : f id = some q) : M.upd (M.come f left) id q = M.come f (fun j => left j && !(j == id)) := by
  funext j
  unfold M.upd M.come
  by_cases h : j = id
  · subst h; simp [hf]
  · simp [h]
theorem M.come_end {f : Int → Option M.Th} {left : Int → Bool} (h : ∀ id, left id = false) : M.come f left = f := by
  funext j
  unfold M.come
  simp [h]
set_option maxHeartbeats 4000000 in
set_option maxRecDepth 100000 in
theorem copy_calls {w : World} {b c : Nat} {f : Int → Option M.Th} (h : MapA w b f c) (hc : c ≤ maxLen) :
    Calls Try.prog 48 #[.map (some b)] w fun e w' => ∃ b', e = .returned (.map (some b')) ∧ MapA w' b' f c ∧ w.heap.size ≤ b' ∧ Below w.heap.size w w' := by
  have hmm := @run_makeMap Try.prog
  have HM := Lib.hid h
  have lb := h.lt
  clear h
  go_enter Try.func48, Try.ntmps48
  have HMA := Lib.hid (HM.out.alloc (.map #[] 0))
  have HN := Lib.hid (MapAt.made Try.prog 3 w)
  go_wp2_with (first | (at_range; refine wpList_th_range _ rfl _ 54 rfl 3 62 Try.underlying3 Try.underlying54 b f c rfl HMA.out ?_; intro w0 hrg0 hg0 hs0; have HR0 := Lib.hid hrg0; have HG0 := Lib.hid hg0; (try simp at hs0); clear hrg0 hg0))
  go_frame
  simp only [World.size_alloc] at HR0 HG0 ⊢
  have HB0 : Hid (Below w.heap.size w w0) := Lib.hid (((Below.refl _ w).alloc (Nat.le_refl _) _).grown HG0.out (by simp) (by simp))
  have HN0 : Hid (MapA w0 w.heap.size (fun _ => none) 0) := Lib.hid (HN.out.kept HG0.out (by simp))
  go_loopg [] c (fun gh wr => ∃ (left : Int → Bool) (cb : Nat), RngA wr b (w.heap.size + 1) f c left gh ∧ MapA wr w.heap.size (M.come f left) cb ∧ cb + gh ≤ c ∧ Below w.heap.size w wr)
  case atStart => exact ⟨_, 0, HR0.out, by rw [M.come_start]; exact HN0.out, by omega, HB0.out⟩
  case round =>
    obtain ⟨wo, hwo⟩ : ∃ wo, wo = wr := ⟨_, rfl⟩
    subst hwo
    obtain ⟨left, cb, hrg, hmb, hcb, hb⟩ := hrel
    have HRG := Lib.hid hrg
    have HMB := Lib.hid hmb
    have HB := Lib.hid hb
    have hz := hb.size
    have lm := hmb.lt
    have lr := hrg.lt
    clear hrg hmb hb
    go_wp2_with (first | (at_next; refine wpList_th_next _ rfl _ rfl 3 Try.underlying3 b (w.heap.size + 1) f c left _ rfl HRG.out (fun h0 hl0 => ?_) (fun id q w1 n1 hid hlt hfq hrg1 hn1 hg1 hs1 hen => ?_)) | (at_mapUpdate; have HP1 := Lib.hid (MapAt.kept HMB.out hg1 (by simp)); refine wpList_th_put _ rfl _ _ _ 54 rfl 3 62 Try.underlying3 Try.underlying54 w.heap.size _ cb rfl (HP1.out.alloc _) (by omega) id q rfl hid rfl ?_; intro w2 hm2 ht2; have HM2 := Lib.hid hm2; have HT2 := Lib.hid ht2; have HHG1 := Lib.hid hg1; have HHR1 := Lib.hid hrg1; have HQ := Lib.hid hfq; clear hm2 ht2 hg1 hrg1 hfq))
    · go_ret
      have hm := HMB.out
      rw [M.come_end hl0] at hm
      refine ⟨_, rfl, ?_, Nat.le_refl _, HB.out⟩
      rw [← hm.count HM.out Try.underlying3]
      exact hm
    · go_roundg n1
      case measure => exact hn1
      case rel =>
        have hr1 := HHR1.out
        have hb2 : Below w.heap.size w w1 := HB.out.grown HHG1.out hz (by simp)
        have hb3 : Below w.heap.size w w2 := below_turned (hb2.alloc (by omega) _) HT2.out (by first | (simp; done) | (simp; omega)) (Nat.le_refl _)
        have e0 : (M.come f left id).isSome = false := by unfold M.come; rw [hlt]; rfl
        have hm2 := HM2.out
        rw [e0, M.come_step HQ.out] at hm2
        refine ⟨_, _, ?_, hm2, by simp; omega, hb3⟩
        have n1 : ¬ b = w.heap.size := by omega
        have lb1 : b < (w1.alloc (.cells (thC q) 62)).heap.size := by simp; omega
        have lr1 : w.heap.size + 1 < (w1.alloc (.cells (thC q) 62)).heap.size := by simp; omega
        refine RangeAt.block hr1 ?_ ?_
        · exact (HT2.out.grown.block b lb1 (by simpa using n1)).trans (Below.heap_alloc w1 _ b (by omega))
        · exact (HT2.out.grown.block (w.heap.size + 1) lr1 (by simp)).trans (Below.heap_alloc w1 _ _ (by omega))
theorem row_eqIn (a : M.Row) (w : World) : (Op.equalIn 9999 27 (rowV a) (rowV a)).run Try.prog w = .ok true w := by
  have hS : Try.prog.underlying 27 = some (.struct (Try.prog.fieldsOf 27)) := by kernel_rfl
  have hp : Try.prog.stoodInHeld 27 = false := by kernel_rfl
  obtain ⟨a0, a1, a2, a3, a4, a5, a6, a7⟩ := a
  rw [show (9999 : Nat) = 9998 + 1 from rfl, run_equalIn_agg w 9998 27 _ _ hS hp]
  simp only [Program.fieldsOf, Try.underlying27]
  go_simp
set_option maxRecDepth 100000 in
theorem th_neq_same (t : M.Th) (w : World) : (binOp .neq 62 (thV t) (thV t)).run Try.prog w = .ok (.bool false) w := by
  have hS : Try.prog.underlying 62 = some (.struct (Try.prog.fieldsOf 62)) := by kernel_rfl
  have hp : Try.prog.stoodInHeld 62 = false := by kernel_rfl
  obtain ⟨m, a⟩ := t
  have hr := row_eqIn a w
  rw [run_neq_struct, show (10000 : Nat) = 9999 + 1 from rfl, run_equalIn_agg w 9999 62 _ _ hS hp]
  simp only [Program.fieldsOf, Try.underlying62]
  obtain ⟨d, hd⟩ : ∃ d, d = 9999 := ⟨_, rfl⟩
  rw [← hd] at hr ⊢
  go_simp
set_option maxHeartbeats 4000000 in
set_option maxRecDepth 100000 in
theorem sameThings_calls {w : World} {a b c d : Nat} {f : Int → Option M.Th} (h : MapA w a f c) (k : MapA w b f d) :
    Calls Try.prog 51 #[.map (some a), .map (some b)] w fun e w' => e = .returned (.bool true) ∧ Below w.heap.size w w' := by
  obtain rfl : c = d := h.count k Try.underlying3
  have HM := Lib.hid h
  have HK := Lib.hid k
  have la := h.lt
  have lb := k.lt
  clear h k
  have q0 : ((c : Int) != (c : Int)) = false := by simp
  go_enter Try.func51, Try.ntmps51
  go_wp2_with (first | (at_len; first | (refine wpList_th_len _ rfl _ 54 rfl 3 62 Try.underlying54 a f c rfl HM.out ?_) | (refine wpList_th_len _ rfl _ 54 rfl 3 62 Try.underlying54 b f c rfl HK.out ?_)) | (at_range; refine wpList_th_range _ rfl _ 54 rfl 3 62 Try.underlying3 Try.underlying54 a f c rfl HM.out ?_; intro w0 hrg0 hg0 hs0; have HR0 := Lib.hid hrg0; have HG0 := Lib.hid hg0; (try simp at hs0); clear hrg0 hg0))
  go_frame
  have HB0 : Hid (Below w.heap.size w w0) := Lib.hid ((Below.refl _ w).grown HG0.out (by simp) (by simp))
  have HK0 : Hid (MapA w0 b f c) := Lib.hid (HK.out.kept HG0.out (by simp))
  go_loopg [] c (fun gh wr => ∃ (left : Int → Bool), RngA wr a w.heap.size f c left gh ∧ MapA wr b f c ∧ Below w.heap.size w wr)
  case atStart => exact ⟨_, HR0.out, HK0.out, HB0.out⟩
  case round =>
    obtain ⟨wo, hwo⟩ : ∃ wo, wo = wr := ⟨_, rfl⟩
    subst hwo
    obtain ⟨left, hrg, hmb, hb⟩ := hrel
    have HRG := Lib.hid hrg
    have HMB := Lib.hid hmb
    have HB := Lib.hid hb
    have hz := hb.size
    have lr := hrg.lt
    clear hrg hmb hb
    go_wp2_with (first | (at_next; refine wpList_th_next _ rfl _ rfl 3 Try.underlying3 a w.heap.size f c left _ rfl HRG.out (fun h0 hl0 => ?_) (fun id q w1 n1 hid hlt hfq hrg1 hn1 hg1 hs1 hen => ?_)) | (at_lookup; have HP1 := Lib.hid (MapAt.kept HMB.out hg1 (by simp; omega)); refine wpList_th_look _ rfl _ _ 54 rfl 3 62 Try.underlying3 Try.underlying54 (th_zero _) b f c rfl (HP1.out.alloc _) id rfl hid ?_; rw [hfq]; have HHG1 := Lib.hid hg1; have HHR1 := Lib.hid hrg1; have HEQ := Lib.hid (fun W => th_neq_same q W); clear hg1 hrg1 hfq))
    · go_ret
      exact ⟨rfl, HB.out⟩
    · go_roundg n1
      case measure => exact hn1
      case rel =>
        have hr1 := HHR1.out
        have hb2 : Below w.heap.size w w1 := HB.out.grown HHG1.out hz (by simp)
        have hz2 := hb2.size
        refine ⟨fun j => left j && !(j == id), ?_, ?_, ?_⟩
        · exact hr1.below (Below.alloc (Below.alloc (Below.refl w1.heap.size w1) (Nat.le_refl _) _) (by simp) _) (by omega) (by omega)
        · exact ((MapAt.kept HMB.out HHG1.out (by simp; omega)).alloc _).alloc _
        · exact (by repeat first | with_reducible assumption | with_reducible exact Below.refl _ _ | with_reducible apply Below.drew | with_reducible apply below_drewN | with_reducible apply Below.alloc (hB := (by first | omega | (simp; done) | (simp; omega))) | with_reducible apply Below.setCell (hp := (by first | omega | (simp; done) | (simp; omega))))
end Go.Proofs.Ytkpecagkpjabdaa
