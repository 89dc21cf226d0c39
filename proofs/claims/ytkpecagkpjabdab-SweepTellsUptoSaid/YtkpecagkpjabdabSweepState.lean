/- What sweep.Pairs holds in memory while it goes from the left: the sorted boxes, the pairs so far, the boxes that may still be met; each in memory of the call's own, apart. And the contracts of slices.Clone and DeleteFunc as it calls them. -/
import Derived.Test.YtkpecagkpjabdabSweepDelete
import Derived.Test.YtkpecagkpjabdabSweepSort
import Derived.Test.YtkpecagkpjabdabSweepGood
namespace Go.Proofs.Ytkpecagkpjabdab
open Go.RowKit
set_option linter.unusedVariables false
set_option linter.unusedSimpArgs false
set_option maxRecDepth 100000

structure SW (w wr : World) (v3 : Value) (zs : List M.Box) (vo vp : Value) (O : List M.Pr) (P : List M.Box) : Prop where
  row : wr.ownsRow w.heap.size 45 5 v3 zs.length (zs.flatMap boxL)
  out : wr.ownsRow w.heap.size 48 2 vo O.length (O.flatMap pairL)
  opn : wr.ownsRow w.heap.size 45 5 vp P.length (P.flatMap boxL)
  a1 : ∀ g, v3.ownBlock = some g → vo.ownBlock ≠ some g ∧ vp.ownBlock ≠ some g
  a2 : ∀ g, vo.ownBlock = some g → vp.ownBlock ≠ some g
  below : Below w.heap.size w wr
section
variable {w wr wr' : World} {v3 vo vp : Value} {zs : List M.Box} {O : List M.Pr} {P : List M.Box}
theorem SW.keep (h : SW w wr v3 zs vo vp O P) (hb : Below wr.heap.size wr wr') : SW w wr' v3 zs vo vp O P :=
  ⟨own_below h.row hb, own_below h.out hb, own_below h.opn hb, h.a1, h.a2, h.below.trans (hb.mono h.below.size)⟩
theorem SW.size (h : SW w wr v3 zs vo vp O P) : w.heap.size ≤ wr.heap.size := h.below.size
theorem none_or {a b : Option Nat} (h : ∀ g, a = some g → b ≠ some g) : a = none ∨ a ≠ b := by
  cases a with
  | none => exact .inl rfl
  | some g => exact .inr (fun e => h g rfl e.symm)
theorem SW.turnOut (h : SW w wr v3 zs vo vp O P) {vo' : Value} {O' : List M.Pr} (hg : wr.grownBy wr' vo.ownBlock) (ho : wr'.ownsRow w.heap.size 48 2 vo' O'.length (O'.flatMap pairL))
    (hat : vo'.ownBlock = vo.ownBlock ∨ ∃ nb, vo'.ownBlock = some nb ∧ wr.heap.size ≤ nb) : SW w wr' v3 zs vo' vp O' P := by
  refine ⟨h.row.kept hg (none_or fun g e => (h.a1 g e).1), ho, h.opn.kept hg (none_or fun g e e2 => h.a2 g e2 e), ?_, ?_, h.below.grown hg h.size (fun k hk => (h.out.lt k hk).1)⟩
  · intro g e
    refine ⟨?_, (h.a1 g e).2⟩
    have hl := (h.row.lt g e).2
    rcases hat with e2 | ⟨nb, e2, hnb⟩
    · rw [e2]; exact (h.a1 g e).1
    · rw [e2]; intro e3; simp only [Option.some.injEq] at e3; omega
  · intro g e e4
    have hl := (h.opn.lt g e4).2
    rcases hat with e2 | ⟨nb, e2, hnb⟩
    · rw [e2] at e; exact h.a2 g e e4
    · rw [e2] at e; simp only [Option.some.injEq] at e; omega
theorem SW.turnOpen (h : SW w wr v3 zs vo vp O P) {vp' : Value} {P' : List M.Box} (hg : wr.grownBy wr' vp.ownBlock) (ho : wr'.ownsRow w.heap.size 45 5 vp' P'.length (P'.flatMap boxL))
    (hat : vp'.ownBlock = vp.ownBlock ∨ ∃ nb, vp'.ownBlock = some nb ∧ wr.heap.size ≤ nb) : SW w wr' v3 zs vo vp' O P' := by
  refine ⟨h.row.kept hg (none_or fun g e => (h.a1 g e).2), h.out.kept hg (none_or fun g e => h.a2 g e), ho, ?_, ?_, h.below.grown hg h.size (fun k hk => (h.opn.lt k hk).1)⟩
  · intro g e
    refine ⟨(h.a1 g e).1, ?_⟩
    have hl := (h.row.lt g e).2
    rcases hat with e2 | ⟨nb, e2, hnb⟩
    · rw [e2]; exact (h.a1 g e).2
    · rw [e2]; intro e3; simp only [Option.some.injEq] at e3; omega
  · intro g e e4
    have hl := (h.out.lt g e).2
    rcases hat with e2 | ⟨nb, e2, hnb⟩
    · rw [e2] at e4; exact h.a2 g e e4
    · rw [e2] at e4; simp only [Option.some.injEq] at e4; omega
/-- an old block other than the row's own is as it was -/
theorem SW.notOpen (h : SW w wr v3 zs vo vp O P) {b : Nat} (hb : wr.heap.size ≤ b) : vp.ownBlock ≠ some b ∧ vo.ownBlock ≠ some b := by
  constructor
  · intro e; have := (h.opn.lt b e).2; omega
  · intro e; have := (h.out.lt b e).2; omega
end

/-! slices.Clone at boxes -/
theorem clone_boxes1 {w : World} {lo : Nat} {v : Value} {l : List M.Box} (h : BoxesAt5 w lo v l) (hne : l ≠ []) (hb : l.length * 40 ≤ 140737488355328) :
    Calls Try.prog 45 #[v] w fun e w' => ∃ v', e = .returned v' ∧ w'.ownsRow w.heap.size 45 5 v' l.length (l.flatMap boxL) ∧ Below w.heap.size w w' := by
  obtain ⟨h1, hm, a, cap, rfl, hc⟩ := h
  have hne2 : l.flatMap boxL ≠ [] := by
    intro e
    have k1 := boxes_len l
    rw [e] at k1
    have k2 : l.length ≠ 0 := fun e2 => hne (List.length_eq_zero_iff.1 e2)
    simp only [List.length_nil] at k1
    omega
  obtain ⟨b, o, rfl, hl, hc⟩ := hc hne2
  obtain ⟨i0, hi, hz0, hz1, hz2⟩ := info_parts infoBox
  have c : Calls Try.prog 45 #[.slice (some ⟨b, o, none⟩) l.length cap] w fun e w' => ∃ v', e = .returned v' ∧ w'.ownsRow w.heap.size 45 5 v' l.length (l.flatMap boxL) ∧ v' ≠ .slice none 0 0 ∧ Below w.heap.size w w' :=
    AnyE.slices_Clone Try.cloneBox i0 (boxV M.box0) 5 40 hi hz0 hz1 hz2 rfl (by decide) Try.sizeOf45 b o l.length cap _ w h1 hm hb hc (boxes_one l)
  exact c.mono fun e w' ⟨v', h1, h2, h3, h4⟩ => ⟨v', h1, h2, h4⟩
set_option maxRecDepth 100000 in
theorem clone_boxes0 (w : World) (a : Option Addr) (cap : Nat) :
    Calls Try.prog 45 #[.slice a 0 cap] w fun e w' => ∃ v', e = .returned v' ∧ w'.ownsRow w.heap.size 45 5 v' 0 [] ∧ Below w.heap.size w w' := by
  cases a with
  | none =>
    have c : Calls Try.prog 45 #[.slice none 0 cap] w fun e w' => e = .returned (.slice none 0 0) ∧ w' = w := AnyE.slices_Clone_nil Try.cloneBox 0 cap w
    exact c.mono fun e w' ⟨h1, h2⟩ => ⟨_, h1, World.ownsRow_nil _ _ _ _, by rw [h2]; exact Below.refl _ _⟩
  | some a =>
    have q22 : ∀ (w : World) (a : Option Addr) (n c n' c' : Nat), (binOp .eql 40 (.slice a n c) (.slice none n' c')).run Try.prog w = .ok (.bool a.isNone) w := fun w a n c n' c' => Lib.run_eql_slice_nil w _ _ a n c n' c' Try.underlying40
    have u22 : ∀ w, Sem.run Try.prog (underlying 40) w = .ok (TypeDesc.slice 45) w := run_underlying Try.underlying40
    go_enter Try.func45, Try.ntmps45
    go_wp2_with fail
    go_ret
    exact ⟨_, rfl, World.ownsRow_lit w #[] 0 (Nat.le_refl _) (Nat.zero_le _) rfl, (Below.refl _ w).alloc (Nat.le_refl _) _⟩
theorem clone_boxes {w : World} {lo : Nat} {v : Value} {l : List M.Box} (h : BoxesAt5 w lo v l) (hb : l.length * 40 ≤ 140737488355328) :
    Calls Try.prog 45 #[v] w fun e w' => ∃ v', e = .returned v' ∧ w'.ownsRow w.heap.size 45 5 v' l.length (l.flatMap boxL) ∧ Below w.heap.size w w' := by
  cases l with
  | nil =>
    obtain ⟨a, cap, rfl⟩ := h.val
    exact clone_boxes0 w a cap
  | cons t ts => exact clone_boxes1 h (by simp) hb

/-! slices.DeleteFunc where there is nothing -/
theorem index_none (w : World) (fv : Value) : Calls Try.prog 72 #[.slice none 0 0, fv] w fun r w' => r = .returned (.int .i64 (-1)) ∧ w' = w := by
  go_enter Try.func72, Try.ntmps72
  go_wp2_with fail
  go_loopg [8] 0 (fun k i wr => wr = w ∧ i = .int .i64 0)
  case atStart => exact ⟨rfl, rfl⟩
  case round =>
    obtain ⟨rfl, rfl⟩ := hrel
    go_wp2_with fail
    go_ret
    exact ⟨rfl, rfl⟩
theorem delete_none (w : World) (fv : Value) : Calls Try.prog 50 #[.slice none 0 0, fv] w fun r w' => r = .returned (.slice none 0 0) ∧ w' = w := by
  go_enter Try.func50, Try.ntmps50
  go_wp2_with (go_at_call 72; refine (index_none _ _).mono ?_; rintro r w1 ⟨rfl, rfl⟩)
  go_ret
  exact ⟨rfl, rfl⟩
theorem deleteFunc_own {w : World} {base bx : Nat} {v : Value} {zs : List M.Box} {e : Int} (h : w.ownsRow base 45 5 v zs.length (zs.flatMap boxL)) (hb : w.cell? ⟨bx, 1, none⟩ = some (.int .i64 e)) (hne : v.ownBlock ≠ some bx) :
    Calls Try.prog 50 #[v, .func (.func 51) #[] #[.pointer (some ⟨bx, 0, none⟩)]] w fun r w' => ∃ v', r = .returned v' ∧
      w'.ownsRow base 45 5 v' (zs.filter fun a => !M.isOver e a).length ((zs.filter fun a => !M.isOver e a).flatMap boxL) ∧ w.grownBy w' v.ownBlock ∧ v'.ownBlock = v.ownBlock := by
  rcases h.2 with ⟨rfl, h0⟩ | ⟨g, cap, cur, rfl, hg, hgg, hn, hm, hs, ht⟩
  · have e0 : zs = [] := List.length_eq_zero_iff.1 h0
    subst e0
    exact (delete_none w _).mono fun r w' ⟨h1, h2⟩ => ⟨_, h1, by rw [h2]; exact World.ownsRow_nil w base _ 5, by rw [h2]; exact World.grownBy.refl w _, rfl⟩
  · have := deleteFunc_calls h rfl hb (fun e2 => hne (by rw [e2]; rfl))
    exact this.mono fun r w' ⟨h1, h2, h3⟩ => ⟨_, h1, h2, h3, rfl⟩
end Go.Proofs.Ytkpecagkpjabdab
