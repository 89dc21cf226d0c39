/- Two games beside each other; Do with its answer named. No condition of its own. -/
import Derived.Test.YtkpecagkpjabdacGreatBagD3
namespace Go.Proofs.YtkpecagkpjabdacGreat
open Go.RowKit
set_option linter.unusedVariables false
set_option linter.unusedSimpArgs false
set_option maxRecDepth 100000
section
variable {w W : World} {Q R : Nat → Prop} {g : Nat} {G : M.Game} {a : Option Addr} {c : Nat} {sv : Value} {hs : List Value}
theorem GameAt.only (h : GameAt w Q g G a c sv hs) (ho : Only R w W) (hd : ∀ b, Q b → ¬ R b) : GameAt W Q g G a c sv hs := h.keep ho.size (fun b h1 q => ho.block b h1 (hd b q))
theorem Blk.only {b : Nat} {t : TypeId} {cs : Array Value} (h : Blk w b t cs) (ho : Only R w W) (hd : ¬ R b) : Blk W b t cs := (ho.block b h.lt hd).trans h
theorem own_only {base : Nat} {e : TypeId} {k n : Nat} {v : Value} {xs : List Value} (h : w.ownsRow base e k v n xs) (ho : Only R w W) (hd : ∀ b, R b → v.ownBlock ≠ some b) : W.ownsRow base e k v n xs :=
  own_same h (fun b e => ho.block b (h.lt b e).2 (fun r => hd b r e))
end
/-- what Do gives, its answer named -/
def DoPost2 (Q : Nat → Prop) (w : World) (g : Nat) (G' : M.Game) (r : M.Reply) (e : Ending) (w' : World) : Prop :=
  ∃ (ai : Option Addr) (ci : Nat) (am : Option Addr) (cm : Nat) (Q' : Nat → Prop) (a : Option Addr) (c : Nat) (sv : Value) (hs : List Value), e = .returned (replyV r (.slice ai r.ids.length ci) (.slice am r.met.length cm)) ∧ GameAt w' Q' g G' a c sv hs ∧
    (∀ b, Q' b → (Q b ∨ w.heap.size ≤ b) ∧ b < w'.heap.size ∧ (Value.slice ai r.ids.length ci).ownBlock ≠ some b ∧ (Value.slice am r.met.length cm).ownBlock ≠ some b) ∧ Only Q w w' ∧
    w'.ownsRow w.heap.size 3 1 (.slice ai r.ids.length ci) r.ids.length (r.ids.map (Value.int .i64)) ∧ w'.ownsRow w.heap.size 75 2 (.slice am r.met.length cm) r.met.length (r.met.flatMap pairL)
theorem do_calls2 {w : World} {Q : Nat → Prop} {g : Nat} {G : M.Game} {a : Option Addr} {c : Nat} {sv : Value} {hs : List Value} (h : GameAt w Q g G a c sv hs) (hq : ∀ b, Q b → b < w.heap.size) (hG : M.GoodG G) {x : M.Act} (h0 : 0 ≤ G.acts) (hx : ActIn x) {G' : M.Game} {r : M.Reply} (hd : M.doAct G x = (G', r)) :
    Calls Tryz.prog 15 #[.pointer (some ⟨g, 0, none⟩), actV x] w (DoPost2 Q w g G' r) := by
  have k := do_calls h hq hG x h0 hx
  rw [hd] at k
  refine k.mono ?_
  rintro e w' ⟨a2, c2, sv2, hs2, ids, met, rfl, hg, ho, hi, hm⟩
  obtain ⟨ai, ci, rfl⟩ := own_form hi
  obtain ⟨am, cm, rfl⟩ := own_form hm
  exact ⟨ai, ci, am, cm, fun b => ((Q b ∨ w.heap.size ≤ b) ∧ (Value.slice ai r.ids.length ci).ownBlock ≠ some b ∧ (Value.slice am r.met.length cm).ownBlock ≠ some b) ∧ b < w'.heap.size, a2, c2, sv2, hs2, rfl, hg.wide (fun b hb q => ⟨q, hb⟩), fun b q => ⟨q.1.1, q.2, q.1.2⟩, ho, hi, hm⟩
theorem field_code (v0 v1 v2 v3 : Value) (W : World) : (Instr.field 40 (.agg #[v0, v1, v2, v3]) 0).run Tryz.prog W = .ok v0 W := by kernel_rfl
end Go.Proofs.YtkpecagkpjabdacGreat
