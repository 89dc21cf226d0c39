/- Several small texts in one. No condition of its own: each part says its own. -/
import Derived.Test.YtkpecagkpjabdabGreatWorldBoxes
import Derived.Test.YtkpecagkpjabdabGreatWorldBack
import Derived.Test.YtkpecagkpjabdabGreatBag1
import Derived.Test.YtkpecagkpjabdabGreatBag3
import Derived.Test.YtkpecagkpjabdabGreatStoreBounds
import Derived.Deep.DeepCutAuto
import Derived.Laws.Rows
/- The facts that are carried through world.Step's loops: the boxes of the world, of the result, of the store; a store that reads whatever lies in these boxes. -/
namespace Go.Proofs.YtkpecagkpjabdabGreat
open Go.RowKit
set_option linter.unusedVariables false
set_option linter.unusedSimpArgs false
set_option maxRecDepth 100000
/-- the n last statements of a body left out ahead -/
def dropS : Nat → Code → Code
  | 0, c => c
  | n + 1, .seq _ b => dropS n b
  | _ + 1, c => c
def headC : Code → Code
  | .seq a _ => a
  | c => c
noncomputable def tailS (n : Nat) : Code := dropS n (Tryz.f20.body.getD .skip)
noncomputable def headS (n : Nat) : Code := headC (tailS n)
/-- results: a boxed struct, and two slots -/
theorem results_cell_tmp2 {P : Program} {fn : Func} {p : Tmp} {ty : TypeId} {u x : Tmp} (h : fn.results = #[.cell p ty, .tmp u, .tmp x]) (tmps : Array Value) (w : World) (g : Nat) (t : TypeId) (cs : Array Value) (fr : Nat × Nat) (d : TypeDesc)
    (hp : tmps.getD p undef = .pointer (some ⟨g, 0, none⟩)) (hg : w.heap[g]? = some (.cells cs t fr))
    (hu : P.underlying ty = some d) (hd : (match d with | .struct _ | .array _ _ => true | _ => false) = true) (hi : (P.info? ty).map (·.size) = some cs.size) :
    (results fn tmps).run P w = .ok (.tuple #[.agg cs, tmps.getD u undef, tmps.getD x undef]) w := by
  have hp' : tmps[p]?.getD undef = .pointer (some ⟨g, 0, none⟩) := by simpa using hp
  simp [results, h, hp', asAddr, run_loadVar_row w g t ty cs fr d hg hu hd hi]
/-- a store that is read in blocks of Q alone -/
def Rob (w : World) (Q : Nat → Prop) (v : Value) (s : M.Store) : Prop := ∀ W, w.heap.size ≤ W.heap.size → (∀ g, g < w.heap.size → Q g → W.heap[g]? = w.heap[g]?) → StoreAt W 0 v s
theorem Rob.at_ {w : World} {Q : Nat → Prop} {v : Value} {s : M.Store} (h : Rob w Q v s) : StoreAt w 0 v s := h w (Nat.le_refl _) (fun _ _ _ => rfl)
theorem Rob.wide {w : World} {Q R : Nat → Prop} {v : Value} {s : M.Store} (h : Rob w Q v s) (hq : ∀ g, g < w.heap.size → Q g → R g) : Rob w R v s := fun U hU hE => h U hU (fun g h1 h2 => hE g h1 (hq g h1 h2))
theorem Rob.of_at {w : World} {lo : Nat} {v : Value} {s : M.Store} (h : StoreAt w lo v s) : Rob w (fun g => lo ≤ g) v s := fun U hU hE => (h.same (W := U) fun g h1 h2 => hE g h2 h1).mono (Nat.zero_le _)
theorem Rob.step {w W : World} {Q : Nat → Prop} {v : Value} {s : M.Store} (h : Rob w Q v s) (hz : w.heap.size ≤ W.heap.size) (hb : ∀ g, g < w.heap.size → Q g → W.heap[g]? = w.heap[g]?) : Rob W Q v s :=
  fun U hU hE => h U (Nat.le_trans hz hU) (fun g h1 h2 => (hE g (by omega) h2).trans (hb g h1 h2))
/-- what Set gives -/
theorem Rob.set {w wc w7 : World} {Q : Nat → Prop} {v v' : Value} {s x : M.Store} (h : Rob w Q v s) (hw : Below w.heap.size w wc) (hc : Below wc.heap.size wc w7) (hx : NewOr wc w7 v v' s x) (h5 : ∀ g, w.heap.size ≤ g → Q g) : Rob w7 Q v' x := by
  have k1 := hw.size
  have k2 := hc.size
  rcases hx with ⟨rfl, rfl⟩ | hx
  · exact h.step (by omega) (fun g h1 h2 => (hc.block g (by omega)).trans (hw.block g h1))
  · intro U hU hE
    exact (hx.same fun g h1 h2 => hE g h2 (h5 g (by omega))).mono (Nat.zero_le _)
/-- the blocks in which the store of a step may be read -/
def InQ (P : Nat → Prop) (w : World) (g1 g2 g5 : Nat) (vo : Value) (g : Nat) : Prop := (P g ∨ w.heap.size ≤ g) ∧ (g ≠ g1 ∧ g ≠ g2 ∧ g ≠ g5) ∧ vo.ownBlock ≠ some g
/-- a store's value -/
abbrev stV (a : Option Addr) (c : Nat) (x : M.Store) : Value := .agg #[.slice a x.tables.length c, .int .i64 x.next]
structure St (P : Nat → Prop) (w W : World) (g1 g2 g5 : Nat) (t0 : Value) (n0 fall wide high : Int) (z0 z1 z2 z3 z4 vo : Value) (l : List M.Pr) (a : Option Addr) (c : Nat) (x : M.Store) : Prop where
  b1 : Blk W g1 41 #[t0, .int .i64 n0, .int .i64 fall, .int .i64 wide, .int .i64 high]
  b2 : Blk W g2 41 #[z0, z1, z2, z3, z4]
  b5 : Blk W g5 39 #[.slice a x.tables.length c, .int .i64 x.next]
  rob : Rob W (InQ P w g1 g2 g5 vo) (stV a c x) x
  good : M.GoodS x
  bel : Below w.heap.size w W
  l1 : w.heap.size ≤ g1
  l2 : w.heap.size ≤ g2
  l5 : w.heap.size ≤ g5
  n12 : g1 ≠ g2
  n15 : g1 ≠ g5
  n25 : g2 ≠ g5
  own : W.ownsRow w.heap.size 77 2 vo l.length (l.flatMap pairL)
  ov : ∀ g, vo.ownBlock = some g → g ≠ g1 ∧ g ≠ g2 ∧ g ≠ g5
section
variable {P : Nat → Prop} {w W W' : World} {g1 g2 g5 : Nat} {t0 : Value} {n0 fall wide high : Int} {z0 z1 z2 z3 z4 vo : Value} {l : List M.Pr} {a : Option Addr} {c : Nat} {x : M.Store}
/-- a world that is as it was but for what is new and the store's box -/
theorem St.next (h : St P w W g1 g2 g5 t0 n0 fall wide high z0 z1 z2 z3 z4 vo l a c x) {a' : Option Addr} {c' : Nat} {x' : M.Store} (hB : But W.heap.size g5 W W') (b5 : Blk W' g5 39 #[.slice a' x'.tables.length c', .int .i64 x'.next])
    (hr : Rob W' (InQ P w g1 g2 g5 vo) (stV a' c' x') x') (hg : M.GoodS x') : St P w W' g1 g2 g5 t0 n0 fall wide high z0 z1 z2 z3 z4 vo l a' c' x' :=
  ⟨(hB.block g1 h.b1.lt h.n15).trans h.b1, (hB.block g2 h.b2.lt h.n25).trans h.b2, b5, hr, hg, h.bel.trans (hB.below (B := w.heap.size) h.bel.size h.l5), h.l1, h.l2, h.l5, h.n12, h.n15, h.n25, own_same h.own (fun g hg => hB.block g (h.own.lt g hg).2 (h.ov g hg).2.2), h.ov⟩
/-- what is new may be read -/
theorem St.newQ (h : St P w W g1 g2 g5 t0 n0 fall wide high z0 z1 z2 z3 z4 vo l a c x) : ∀ g, W.heap.size ≤ g → InQ P w g1 g2 g5 vo g := by
  intro g hg
  have k0 := h.bel.size
  have k1 := h.b1.lt
  have k2 := h.b2.lt
  have k5 := h.b5.lt
  exact ⟨.inr (by omega), ⟨by omega, by omega, by omega⟩, fun e => by have := (h.own.lt g e).2; omega⟩
/-- one pair more has met -/
theorem St.grow (h : St P w W g1 g2 g5 t0 n0 fall wide high z0 z1 z2 z3 z4 vo l a c x) {w9 : World} {v9 : Value} {p : M.Pr} (ho : w9.ownsRow w.heap.size 77 2 v9 (l.length + 1) (l.flatMap pairL ++ pairL p)) (hg : W.grownBy w9 vo.ownBlock)
    (hat : v9.ownBlock = vo.ownBlock ∨ v9.ownBlock = some W.heap.size) : St P w w9 g1 g2 g5 t0 n0 fall wide high z0 z1 z2 z3 z4 v9 (l ++ [p]) a c x := by
  refine ⟨(hg.block g1 h.b1.lt (fun e => (h.ov g1 e.symm).1 rfl)).trans h.b1, (hg.block g2 h.b2.lt (fun e => (h.ov g2 e.symm).2.1 rfl)).trans h.b2, (hg.block g5 h.b5.lt (fun e => (h.ov g5 e.symm).2.2 rfl)).trans h.b5, ?_, h.good, h.bel.grown hg h.bel.size (fun k hk => (h.own.lt k hk).1), h.l1, h.l2, h.l5, h.n12, h.n15, h.n25, ?_, ?_⟩
  · intro V hV hE
    refine h.rob V (Nat.le_trans hg.size hV) (fun g h1 h2 => ?_)
    refine (hE g (Nat.lt_of_lt_of_le h1 hg.size) ⟨h2.1, h2.2.1, fun e => ?_⟩).trans (hg.block g h1 (fun e => h2.2.2 e.symm))
    rcases hat with k | k
    · exact h2.2.2 (k ▸ e)
    · rw [k] at e
      simp only [Option.some.injEq] at e
      omega
  · rw [List.length_append, List.flatMap_append]
    simpa using ho
  · intro g e
    rcases hat with k | k
    · exact h.ov g (k ▸ e)
    · rw [k] at e
      simp only [Option.some.injEq] at e
      have k1 := h.b1.lt
      have k2 := h.b2.lt
      have k5 := h.b5.lt
      omega
theorem St.more (h : St P w W g1 g2 g5 t0 n0 fall wide high z0 z1 z2 z3 z4 vo l a c x) (hb : Below W.heap.size W W') : St P w W' g1 g2 g5 t0 n0 fall wide high z0 z1 z2 z3 z4 vo l a c x :=
  h.next (But.of_below hb (Nat.le_refl _)) (h.b5.below hb h.b5.lt) (h.rob.step hb.size (fun g h1 _ => hb.block g h1)) h.good
end
end Go.Proofs.YtkpecagkpjabdabGreat
/- An empty store lies anywhere; what a call has made is read in its own blocks. No condition. -/
namespace Go.Proofs.YtkpecagkpjabdabGreat
open Go.RowKit
set_option linter.unusedVariables false
set_option linter.unusedSimpArgs false
set_option maxRecDepth 100000
theorem nil_store (w : World) (lo : Nat) : StoreAt w lo (.agg #[.slice none 0 0, .int .i64 0]) ⟨[], 0⟩ :=
  ⟨_, rfl, [], rfl, ⟨rfl, Nat.zero_le _, none, 0, rfl, fun h => absurd rfl h⟩, fun i t p h => by simp at h⟩
theorem nil_in : StoreIn ⟨[], 0⟩ := ⟨⟨by simp, by simp⟩, fun t h => by simp at h⟩
/-- what a call has made, behind further new blocks -/
theorem Rob.made {w W : World} {v : Value} {s : M.Store} {lo : Nat} (h : StoreAt w lo v s) (hb : Below w.heap.size w W) : Rob W (fun g => g < w.heap.size) v s :=
  ((Rob.of_at h).wide (R := fun g => g < w.heap.size) (fun g h1 _ => h1)).step hb.size (fun g h1 _ => hb.block g h1)
end Go.Proofs.YtkpecagkpjabdabGreat
