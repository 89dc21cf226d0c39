/- Several small texts in one. No condition of its own: each part says its own. -/
import Derived.Test.YtkpecagkpjabdacGreatWorldStep
import Derived.Test.YtkpecagkpjabdacGreatBagG
import Derived.Test.YtkpecagkpjabdacGreatBagW
import Derived.Test.YtkpecagkpjabdacGreatBagP
import Derived.Test.YtkpecagkpjabdacGreatMem
import Derived.Laws.Rows
import Derived.Test.YtkpecagkpjabdacGreatBagT2
import Derived.Deep.DeepCutAuto
import Derived.Test.YtkpecagkpjabdacGreatBagS
import Derived.Deep.AppendSrc
/- How a game lies in memory: its block, its world's store, its saves; and how that is kept. No condition. -/
namespace Go.Proofs.YtkpecagkpjabdacGreat
open Go.RowKit
set_option linter.unusedVariables false
set_option linter.unusedSimpArgs false
set_option maxRecDepth 100000
/-- the cells of worlds, with the values of their tables -/
def saveL (ds : List M.Wd) (hs : List Value) : List Value := (ds.zip hs).flatMap fun p => [p.2, .int .i64 p.1.things.next, .int .i64 p.1.fall, .int .i64 p.1.wide, .int .i64 p.1.high]
abbrev gameC (vt sv : Value) (G : M.Game) : Array Value := #[vt, .int .i64 G.w.things.next, .int .i64 G.w.fall, .int .i64 G.w.wide, .int .i64 G.w.high, sv, .int .i64 G.acts]
/-- the blocks in which a game's stores may be read -/
def InG (Q : Nat → Prop) (g : Nat) (sv : Value) (b : Nat) : Prop := Q b ∧ b ≠ g ∧ sv.ownBlock ≠ some b
/-- a game in block g, all of it in blocks of Q -/
structure GameAt (w : World) (Q : Nat → Prop) (g : Nat) (G : M.Game) (a : Option Addr) (c : Nat) (sv : Value) (hs : List Value) : Prop where
  blk : Blk w g 85 (gameC (.slice a G.w.things.tables.length c) sv G)
  inQ : Q g
  st : Rob w (InG Q g sv) (stV a c G.w.things) G.w.things
  own : w.ownsRow 0 33 5 sv G.saves.length (saveL G.saves hs)
  len : hs.length = G.saves.length
  ov : ∀ b, sv.ownBlock = some b → Q b ∧ b ≠ g
  each : ∀ (i : Nat) d v, G.saves[i]? = some d → hs[i]? = some v → ∃ a c, v = .slice a d.things.tables.length c ∧ Rob w (InG Q g sv) (stV a c d.things) d.things
/-- what may have changed: blocks of Q alone -/
structure Only (Q : Nat → Prop) (w w' : World) : Prop where
  os : w'.os = w.os
  tape : w'.tape = w.tape
  output : w'.output = w.output
  size : w.heap.size ≤ w'.heap.size
  block : ∀ b, b < w.heap.size → ¬ Q b → w'.heap[b]? = w.heap[b]?
theorem Only.of_below {Q : Nat → Prop} {w w' : World} (h : Below w.heap.size w w') : Only Q w w' := ⟨h.os, h.tape, h.output, h.size, fun b hb _ => h.block b hb⟩
theorem Only.refl (Q : Nat → Prop) (w : World) : Only Q w w := .of_below (Below.refl _ w)
theorem Only.trans {Q : Nat → Prop} {a b c : World} (h : Only Q a b) (k : Only Q b c) : Only Q a c :=
  ⟨k.os.trans h.os, k.tape.trans h.tape, k.output.trans h.output, Nat.le_trans h.size k.size, fun g h1 h2 => (k.block g (Nat.lt_of_lt_of_le h1 h.size) h2).trans (h.block g h1 h2)⟩
theorem Only.wide {Q R : Nat → Prop} {w w' : World} (h : Only Q w w') (hq : ∀ b, b < w.heap.size → Q b → R b) : Only R w w' := ⟨h.os, h.tape, h.output, h.size, fun b h1 h2 => h.block b h1 (fun k => h2 (hq b h1 k))⟩
theorem Only.below {Q : Nat → Prop} {w w' : World} {B : Nat} (h : Only Q w w') (hB : B ≤ w.heap.size) (hq : ∀ b, Q b → B ≤ b) : Below B w w' :=
  ⟨h.os, h.tape, h.output, h.size, fun b hb => h.block b (by omega) (fun k => by have := hq b k; omega)⟩
theorem Only.setCell {Q : Nat → Prop} {w W : World} {p : Addr} (h : Only Q w W) (hp : Q p.block ∨ w.heap.size ≤ p.block) (u : Value) : Only Q w (W.setCell p u) :=
  ⟨h.os, h.tape, h.output, by simpa [World.setCell] using h.size, fun b h1 h2 => (Below.heap_setCell _ _ _ _ (by rintro rfl; rcases hp with k | k <;> first | exact h2 k | omega)).trans (h.block b h1 h2)⟩
theorem Only.alloc {Q : Nat → Prop} {w W : World} (h : Only Q w W) (o : Obj) : Only Q w (W.alloc o) := h.trans (.of_below ((Below.refl _ W).alloc (Nat.le_refl _) o))
theorem Only.drew {Q : Nat → Prop} {w W : World} (h : Only Q w W) : Only Q w W.drew := ⟨h.os, h.tape, h.output, h.size, h.block⟩
theorem Only.more {Q : Nat → Prop} {w a b : World} (h : Only Q w a) (k : Below a.heap.size a b) : Only Q w b := h.trans (.of_below k)
section
variable {w W : World} {Q R : Nat → Prop} {g : Nat} {G G' : M.Game} {a : Option Addr} {c : Nat} {sv : Value} {hs : List Value}
theorem GameAt.keep (h : GameAt w Q g G a c sv hs) (hz : w.heap.size ≤ W.heap.size) (hb : ∀ b, b < w.heap.size → Q b → W.heap[b]? = w.heap[b]?) : GameAt W Q g G a c sv hs :=
  ⟨(hb g h.blk.lt h.inQ).trans h.blk, h.inQ, h.st.step hz (fun b h1 h2 => hb b h1 h2.1), own_same h.own (fun b e => hb b (h.own.lt b e).2 (h.ov b e).1), h.len, h.ov,
   fun i d v h1 h2 => by obtain ⟨a, c, e, k⟩ := h.each i d v h1 h2; exact ⟨a, c, e, k.step hz (fun b h1 h2 => hb b h1 h2.1)⟩⟩
theorem GameAt.below (h : GameAt w Q g G a c sv hs) (hb : Below w.heap.size w W) : GameAt W Q g G a c sv hs := h.keep hb.size (fun b h1 _ => hb.block b h1)
theorem GameAt.wide (h : GameAt w Q g G a c sv hs) (hq : ∀ b, b < w.heap.size → Q b → R b) : GameAt w R g G a c sv hs :=
  ⟨h.blk, hq g h.blk.lt h.inQ, h.st.wide (fun b h1 k => ⟨hq b h1 k.1, k.2⟩), h.own, h.len, fun b e => ⟨hq b (h.own.lt b e).2 (h.ov b e).1, (h.ov b e).2⟩,
   fun i d v h1 h2 => by obtain ⟨a, c, e, k⟩ := h.each i d v h1 h2; exact ⟨a, c, e, k.wide (fun b h1 k => ⟨hq b h1 k.1, k.2⟩)⟩⟩
/-- the world (and the count) of a game are others; the saves are as they were -/
theorem GameAt.upd (h : GameAt w Q g G a c sv hs) (hz : w.heap.size ≤ W.heap.size) (hb : ∀ b, b < w.heap.size → Q b → b ≠ g → W.heap[b]? = w.heap[b]?) {a' : Option Addr} {c' : Nat}
    (blk : Blk W g 85 (gameC (.slice a' G'.w.things.tables.length c') sv G')) (hsv : G'.saves = G.saves) (st : Rob W (InG Q g sv) (stV a' c' G'.w.things) G'.w.things) : GameAt W Q g G' a' c' sv hs :=
  ⟨blk, h.inQ, st, by rw [hsv]; exact own_same h.own (fun b e => hb b (h.own.lt b e).2 (h.ov b e).1 (h.ov b e).2), by rw [hsv]; exact h.len, h.ov,
   fun i d v h1 h2 => by rw [hsv] at h1; obtain ⟨a, c, e, k⟩ := h.each i d v h1 h2; exact ⟨a, c, e, k.step hz (fun b h1 h2 => hb b h1 h2.1 h2.2.1)⟩⟩
/-- what is new may be read -/
theorem GameAt.newG (h : GameAt w Q g G a c sv hs) (hq : ∀ b, w.heap.size ≤ b → Q b) : ∀ b, w.heap.size ≤ b → InG Q g sv b := by
  intro b hb
  have k := h.blk.lt
  exact ⟨hq b hb, by omega, fun e => by have := (h.own.lt b e).2; omega⟩
end
/-- a reply's value -/
abbrev replyV (r : M.Reply) (ids met : Value) : Value := .agg #[.int .i64 r.code, .int .i64 r.n, ids, met]
/-- what Do gives -/
def DoPost (Q : Nat → Prop) (w : World) (g : Nat) (G' : M.Game) (r : M.Reply) (e : Ending) (w' : World) : Prop :=
  ∃ (a : Option Addr) (c : Nat) (sv : Value) (hs : List Value) (ids met : Value), e = .returned (replyV r ids met) ∧
    GameAt w' (fun b => (Q b ∨ w.heap.size ≤ b) ∧ ids.ownBlock ≠ some b ∧ met.ownBlock ≠ some b) g G' a c sv hs ∧ Only Q w w' ∧
    w'.ownsRow w.heap.size 3 1 ids r.ids.length (r.ids.map (Value.int .i64)) ∧ w'.ownsRow w.heap.size 75 2 met r.met.length (r.met.flatMap pairL)
/-- what change and kick give -/
def MidPost (Q : Nat → Prop) (w : World) (g : Nat) (G' : M.Game) (code : Int) (e : Ending) (w' : World) : Prop :=
  ∃ (a : Option Addr) (c : Nat) (sv : Value) (hs : List Value), e = .returned (.int .i64 code) ∧ GameAt w' (fun b => Q b ∨ w.heap.size ≤ b) g G' a c sv hs ∧ Only Q w w'
end Go.Proofs.YtkpecagkpjabdacGreat
/- A game that is nil: what World and Do answer, and that a reply is the same as itself. No condition. -/
namespace Go.Proofs.YtkpecagkpjabdacGreat
open Go.RowKit
set_option linter.unusedVariables false
set_option linter.unusedSimpArgs false
set_option maxRecDepth 100000

set_option maxHeartbeats 4000000 in
theorem nilWorld_calls (w : World) :
    Calls Tryz.prog 13 #[.pointer none] w fun e w' => e = .returned (.agg #[.slice none 0 0, .int .i64 0, .int .i64 0, .int .i64 0, .int .i64 0]) ∧ w' = w.alloc (.cells #[.slice none 0 0, .int .i64 0, .int .i64 0, .int .i64 0, .int .i64 0] 33) := by
  go_enter Tryz.func13, Tryz.ntmps13
  go_wp2
  refine bodyPost_ret (results_cell_row rfl _ _ _ _ _ _ _ rfl (heap_alloc_new w _) Tryz.underlying33 rfl (by kernel_rfl)) rfl ⟨rfl, rfl⟩
set_option maxHeartbeats 4000000 in
theorem no_calls (e : Int) (w : World) :
    Calls Tryz.prog 32 #[.int .i64 e] w fun r w' => r = .returned (.agg #[.int .i64 e, .int .i64 0, .slice none 0 0, .slice none 0 0]) ∧ w' = w.alloc (.cells #[.int .i64 e, .int .i64 0, .slice none 0 0, .slice none 0 0] 40) := by
  go_enter Tryz.func32, Tryz.ntmps32
  go_wp2
  refine bodyPost_ret (results_cell_row rfl _ _ _ _ _ _ _ rfl (heap_alloc_new w _) Tryz.underlying40 rfl (by kernel_rfl)) rfl ⟨rfl, rfl⟩
set_option maxHeartbeats 4000000 in
theorem nilDo_calls (a : M.Act) (w : World) :
    Calls Tryz.prog 15 #[.pointer none, actV a] w fun e w' => e = .returned (.agg #[.int .i64 3, .int .i64 0, .slice none 0 0, .slice none 0 0]) ∧ Below w.heap.size w w' := by
  go_enter Tryz.func15, Tryz.ntmps15
  go_wp2_with (go_at_call 32; refine (no_calls _ _).mono ?_; rintro e w1 ⟨rfl, rfl⟩)
  refine bodyPost_ret (results_cell_row rfl _ _ _ _ _ _ _ rfl ((heap_alloc_old _ _ (by simp)).trans (heap_alloc2_new w _ _)) Tryz.underlying40 rfl (by kernel_rfl)) rfl ⟨rfl, (by repeat first | with_reducible assumption | with_reducible exact Below.refl _ _ | with_reducible apply Below.drew | with_reducible apply below_drewN | with_reducible apply Below.alloc (hB := (by first | omega | (simp; done) | (simp; omega))) | with_reducible apply Below.setCell (hp := (by first | omega | (simp; done) | (simp; omega))))⟩
set_option maxHeartbeats 4000000 in
theorem nilReply_calls (e : Int) (w : World) :
    Calls Tryz.prog 14 #[.agg #[.int .i64 e, .int .i64 0, .slice none 0 0, .slice none 0 0], .agg #[.int .i64 e, .int .i64 0, .slice none 0 0, .slice none 0 0]] w fun r w' => r = .returned (.bool true) ∧ Below w.heap.size w w' := by
  go_enter Tryz.func14, Tryz.ntmps14
  go_wp2
  refine wp_loop_once ?_
  go_wp2
  refine wp_loop_once ?_
  go_wp2
  go_ret
  exact ⟨rfl, (by repeat first | with_reducible assumption | with_reducible exact Below.refl _ _ | with_reducible apply Below.drew | with_reducible apply below_drewN | with_reducible apply Below.alloc (hB := (by first | omega | (simp; done) | (simp; omega))) | with_reducible apply Below.setCell (hp := (by first | omega | (simp; done) | (simp; omega))))⟩
end Go.Proofs.YtkpecagkpjabdacGreat
/- Words for the contract of Do: the act's box, the reply's box, how it ends. No condition. -/
namespace Go.Proofs.YtkpecagkpjabdacGreat
open Go.RowKit
set_option linter.unusedVariables false
set_option linter.unusedSimpArgs false
set_option maxRecDepth 100000
/-- what may be read and written while Do runs: not the reply's box -/
def QD (Q : Nat → Prop) (w : World) (b : Nat) : Prop := (Q b ∨ w.heap.size ≤ b) ∧ b ≠ w.heap.size + 1
abbrev more (G : M.Game) : M.Game := { G with acts := G.acts + 1 }
abbrev replyT : TypeId := 40
/-- the reply's box behind the four stores -/
theorem reply_blk {U : World} {b : Nat} {z0 z1 z2 z3 : Value} (h : Blk U b 40 #[z0, z1, z2, z3]) (c0 c1 c2 c3 : Value) :
    ((((U.setCell ⟨b, 0, none⟩ c0).setCell ⟨b, 1, none⟩ c1).setCell ⟨b, 2, none⟩ c2).setCell ⟨b, 3, none⟩ c3).heap[b]? = some (.cells #[c0, c1, c2, c3] 40 (0, 0)) :=
  blk_to ((((h.put 0 c0).put 1 c1).put 2 c2).put 3 c3) (by rfl)
theorem do_end {Q : Nat → Prop} {w W3 U : World} {g : Nat} {G' : M.Game} {a : Option Addr} {c : Nat} {sv : Value} {hs : List Value} (h : GameAt W3 (QD Q w) g G' a c sv hs) (ho : Only Q w W3) (hz : w.heap.size + 1 < W3.heap.size) (hU : Below W3.heap.size W3 U)
    (r : M.Reply) {ids met : Value} {i0 m0 : Value} (hid : U.ownsRow w.heap.size 3 1 ids r.ids.length (r.ids.map (Value.int .i64))) (hmet : U.ownsRow w.heap.size 75 2 met r.met.length (r.met.flatMap pairL))
    (hni : ∀ b, ids.ownBlock = some b → W3.heap.size ≤ b) (hnm : ∀ b, met.ownBlock = some b → W3.heap.size ≤ b) (hq : ∀ b, Q b → b < w.heap.size) (c0 c1 c2 c3 : Value) :
    ∃ (a : Option Addr) (c : Nat) (sv : Value) (hs : List Value) (ids' met' : Value), Ending.returned (replyV r ids met) = .returned (replyV r ids' met') ∧
    GameAt ((((U.setCell ⟨w.heap.size + 1, 0, none⟩ c0).setCell ⟨w.heap.size + 1, 1, none⟩ c1).setCell ⟨w.heap.size + 1, 2, none⟩ c2).setCell ⟨w.heap.size + 1, 3, none⟩ c3) (fun b => (Q b ∨ w.heap.size ≤ b) ∧ ids'.ownBlock ≠ some b ∧ met'.ownBlock ≠ some b) g G' a c sv hs ∧
    Only Q w ((((U.setCell ⟨w.heap.size + 1, 0, none⟩ c0).setCell ⟨w.heap.size + 1, 1, none⟩ c1).setCell ⟨w.heap.size + 1, 2, none⟩ c2).setCell ⟨w.heap.size + 1, 3, none⟩ c3) ∧
    ((((U.setCell ⟨w.heap.size + 1, 0, none⟩ c0).setCell ⟨w.heap.size + 1, 1, none⟩ c1).setCell ⟨w.heap.size + 1, 2, none⟩ c2).setCell ⟨w.heap.size + 1, 3, none⟩ c3).ownsRow w.heap.size 3 1 ids' r.ids.length (r.ids.map (Value.int .i64)) ∧
    ((((U.setCell ⟨w.heap.size + 1, 0, none⟩ c0).setCell ⟨w.heap.size + 1, 1, none⟩ c1).setCell ⟨w.heap.size + 1, 2, none⟩ c2).setCell ⟨w.heap.size + 1, 3, none⟩ c3).ownsRow w.heap.size 75 2 met' r.met.length (r.met.flatMap pairL) := by
  have far : ∀ b, b ≠ w.heap.size + 1 → ((((U.setCell ⟨w.heap.size + 1, 0, none⟩ c0).setCell ⟨w.heap.size + 1, 1, none⟩ c1).setCell ⟨w.heap.size + 1, 2, none⟩ c2).setCell ⟨w.heap.size + 1, 3, none⟩ c3).heap[b]? = U.heap[b]? := fun b hb =>
    (((Below.heap_setCell _ _ _ b hb).trans (Below.heap_setCell _ _ _ b hb)).trans (Below.heap_setCell _ _ _ b hb)).trans (Below.heap_setCell _ _ _ b hb)
  have hn1 : ∀ {v : Value} (_ : ∀ b, v.ownBlock = some b → W3.heap.size ≤ b) b, v.ownBlock = some b → b ≠ w.heap.size + 1 := fun hv b e => by have := hv b e; omega
  refine ⟨a, c, sv, hs, ids, met, rfl, ?_, ?_, own_same hid (fun b e => far b (hn1 hni b e)), own_same hmet (fun b e => far b (hn1 hnm b e))⟩
  · refine (h.wide (R := fun b => ((Q b ∨ w.heap.size ≤ b) ∧ ids.ownBlock ≠ some b ∧ met.ownBlock ≠ some b) ∧ b ≠ w.heap.size + 1) (fun b h1 k => ⟨⟨k.1, fun e => ?_, fun e => ?_⟩, k.2⟩)).keep ?_ (fun b h1 k => (far b k.2).trans (hU.block b h1)) |>.wide (fun b _ k => k.1)
    · have := hni b e; omega
    · have := hnm b e; omega
    · simpa [World.setCell] using hU.size
  · exact ((((ho.more hU).setCell (.inr (Nat.le_succ _)) _).setCell (.inr (Nat.le_succ _)) _).setCell (.inr (Nat.le_succ _)) _).setCell (.inr (Nat.le_succ _)) _
/-- the end of Do where a method has told the reply -/
theorem do_end2 {Q : Nat → Prop} {w U : World} {m g : Nat} {G' : M.Game} {a : Option Addr} {c : Nat} {sv : Value} {hs : List Value} {ids met : Value} (h : GameAt U (fun b => ((QD Q w b ∧ b < m) ∨ m ≤ b) ∧ ids.ownBlock ≠ some b ∧ met.ownBlock ≠ some b) g G' a c sv hs)
    (ho : Only Q w U) (hm : w.heap.size + 1 < m) (r : M.Reply) (hid : U.ownsRow m 3 1 ids r.ids.length (r.ids.map (Value.int .i64))) (hmet : U.ownsRow m 75 2 met r.met.length (r.met.flatMap pairL)) (c0 c1 c2 c3 : Value) :
    DoPost Q w g G' r (.returned (replyV r ids met)) ((((U.setCell ⟨w.heap.size + 1, 0, none⟩ c0).setCell ⟨w.heap.size + 1, 1, none⟩ c1).setCell ⟨w.heap.size + 1, 2, none⟩ c2).setCell ⟨w.heap.size + 1, 3, none⟩ c3) := by
  have far : ∀ b, b ≠ w.heap.size + 1 → ((((U.setCell ⟨w.heap.size + 1, 0, none⟩ c0).setCell ⟨w.heap.size + 1, 1, none⟩ c1).setCell ⟨w.heap.size + 1, 2, none⟩ c2).setCell ⟨w.heap.size + 1, 3, none⟩ c3).heap[b]? = U.heap[b]? := fun b hb =>
    (((Below.heap_setCell _ _ _ b hb).trans (Below.heap_setCell _ _ _ b hb)).trans (Below.heap_setCell _ _ _ b hb)).trans (Below.heap_setCell _ _ _ b hb)
  have h' := h.wide (R := fun b => ((Q b ∨ w.heap.size ≤ b) ∧ ids.ownBlock ≠ some b ∧ met.ownBlock ≠ some b) ∧ b ≠ w.heap.size + 1) (fun b _ q => by
    rcases q.1 with k | k
    · exact ⟨⟨k.1.1, q.2⟩, k.1.2⟩
    · exact ⟨⟨.inr (by omega), q.2⟩, by omega⟩)
  refine ⟨a, c, sv, hs, ids, met, rfl, (h'.keep (by simp [World.setCell]) (fun b _ q => far b q.2)).wide (fun b _ q => q.1), (((ho.setCell (.inr (Nat.le_succ _)) _).setCell (.inr (Nat.le_succ _)) _).setCell (.inr (Nat.le_succ _)) _).setCell (.inr (Nat.le_succ _)) _, ?_, ?_⟩
  · exact own_lower (own_same hid (fun b e => far b (by have := (hid.lt b e).1; omega))) (by omega)
  · exact own_lower (own_same hmet (fun b e => far b (by have := (hmet.lt b e).1; omega))) (by omega)
/-- a method's change is one of Do's -/
theorem Only.inner {Q : Nat → Prop} {w W2 W : World} {m : Nat} (h : Only (fun b => QD Q w b ∧ b < m) W2 W) (h2 : Only Q w W2) : Only Q w W :=
  ⟨h.os.trans h2.os, h.tape.trans h2.tape, h.output.trans h2.output, Nat.le_trans h2.size h.size, fun b hb hq => (h.block b (Nat.lt_of_lt_of_le hb h2.size) (fun k => by rcases k.1.1 with k | k <;> first | exact hq k | omega)).trans (h2.block b hb hq)⟩
theorem DoPost.more {Q : Nat → Prop} {w U V : World} {g : Nat} {G' : M.Game} {r : M.Reply} {e : Ending} (h : DoPost Q w g G' r e U) (hb : Below U.heap.size U V) : DoPost Q w g G' r e V := by
  obtain ⟨a, c, sv, hs, ids, met, he, hg, ho, h1, h2⟩ := h
  exact ⟨a, c, sv, hs, ids, met, he, hg.below hb, ho.more hb, own_below h1 hb, own_below h2 hb⟩
end Go.Proofs.YtkpecagkpjabdacGreat
/- append of a whole row (nil too) onto a row of the call's own. No condition. -/
namespace Go.Proofs.YtkpecagkpjabdacGreat
open Go.RowKit
set_option linter.unusedVariables false
set_option linter.unusedSimpArgs false
set_option maxRecDepth 100000
theorem run_append_none {P : Program} (w : World) (base : Nat) (t ty e : TypeId) (i : TypeInfo) (size : Nat) (ht : P.underlying t = some (.slice e)) (hi : P.info? e = some i) (hsize : i.size = size)
    (v : Value) (n : Nat) (xs : List Value) (hown : w.ownsRow base e size v n xs) (c : Nat) : (Builtin.append_ #[t, t] ty #[v, .slice none 0 c]).run P w = .ok v w := by
  rcases hown.2 with ⟨rfl, rfl⟩ | ⟨g, cap, cur, rfl, _, _, hn, _⟩
  · have hs := Src.ofNil (size := i.size) (w := w) ht c
    simp [Builtin.append_, run_underlying ht, sizeOf, typeInfo, hi, hs.len, hs.cells]
  · have k := run_append_room_src (P := P) w t t ty e i ht hi g 0 n cap (.slice none 0 c) 0 [] (Src.ofNil (size := i.size) (w := w) ht c) hn (by simp) (by simp)
    simpa [World.setCells] using k
theorem run_append_own_any {P : Program} (w : World) (base : Nat) (t ty e : TypeId) (i : TypeInfo) (z : Value) (size bytes : Nat) (ht : P.underlying t = some (.slice e)) (hi : P.info? e = some i) (hz : i.zero = some z)
    (hsize : i.size = size) (hby : i.bytes = bytes) (hzs : z.cells.size = size) (hsz : 0 < size) (v : Value) (n : Nat) (xs : List Value) (hown : w.ownsRow base e size v n xs)
    (u : Value) (base2 m : Nat) (news : List Value) (hsrc : w.ownsRow base2 e size u m news) (h1 : ∀ u ∈ news, u.oneCell' = true) (h63 : n + m ≤ maxLen) (hbytes : (n + m) * bytes ≤ 140737488355328) (hbase : base ≤ w.heap.size) :
    ∃ v' w', (Builtin.append_ #[t, t] ty #[v, u]).run P w = .ok v' w' ∧ w'.ownsRow base e size v' (n + m) (xs ++ news) ∧ w.grownBy w' v.ownBlock ∧ (v'.ownBlock = v.ownBlock ∨ v'.ownBlock = some w.heap.size) := by
  rcases id hsrc.2 with ⟨rfl, rfl⟩ | ⟨g, cap, cur, rfl, _⟩
  · have hx : news = [] := List.length_eq_zero_iff.1 (by simpa using hsrc.1)
    subst hx
    refine ⟨v, w, run_append_none w base t ty e i size ht hi hsize v n xs hown 0, by simpa using hown, ⟨rfl, rfl, rfl, Nat.le_refl _, fun _ _ _ => rfl⟩, .inl rfl⟩
  · obtain ⟨v', w', hr, k1, k2, _, k3⟩ := run_append_own_at (P := P) w base t ty e i z size bytes ht hi hz hsize hby hzs hsz v n xs hown ⟨g, 0, none⟩ m cap news hsrc.1 (fun j u hj => hsrc.cells (g := g) rfl j u hj) h1 h63 hbytes hbase
    exact ⟨v', w', hr, k1, k2, k3⟩
/-- as one step of a region that draws its order -/
theorem step_append_own_any {P : Program} {ops : Array Oper} {o : Oper} {a : Act} {w : World} {K : Act → World → Prop} {Q : Exit → Act → World → Prop} {E : Prop}
    (hgd : o.guard = none) (s x : Operand) (t : TypeId) (hop : o.op = Op.call { callee := Callee.builtin Builtin.append, args := #[s, x], argTypes := #[t, t] })
    (base : Nat) (e : TypeId) (i : TypeInfo) (z : Value) (size bytes : Nat) (ht : P.underlying t = some (.slice e)) (hi : P.info? e = some i) (hz : i.zero = some z)
    (hsize : i.size = size) (hby : i.bytes = bytes) (hzs : z.cells.size = size) (hsz : 0 < size) (v : Value) (n : Nat) (xs : List Value) (hown : w.ownsRow base e size v n xs) (hs : a.eval s = v)
    (u : Value) (base2 m : Nat) (news : List Value) (hsrc : w.ownsRow base2 e size u m news) (hx : a.eval x = u) (h1 : ∀ u ∈ news, u.oneCell' = true) (h63 : n + m ≤ maxLen) (hbytes : (n + m) * bytes ≤ 140737488355328) (hbase : base ≤ w.heap.size)
    (hK : ∀ v' w', w'.ownsRow base e size v' (n + m) (xs ++ news) → w.grownBy w' v.ownBlock → (v'.ownBlock = v.ownBlock ∨ v'.ownBlock = some w.heap.size) → K (a.put o.dst v') w') :
    if Region.wanted o (yielded ops a.tmps) = true then Oper.wp P o a w K Q else E := by
  have hw : Region.wanted o (yielded ops a.tmps) = true := by simp [Region.wanted, hgd]
  rw [if_pos hw]
  obtain ⟨v', w', hr, k1, k2, k3⟩ := run_append_own_any (P := P) w base t o.type e i z size bytes ht hi hz hsize hby hzs hsz v n xs hown u base2 m news hsrc h1 h63 hbytes hbase
  unfold Oper.wp
  simp [execOp, hop, resolve, invoke, builtin, hs, hx, hr, Result.andThen]
  exact hK v' w' k1 k2 k3
/-- the same, the slots by name -/
theorem step_append_own_any2 {tm : Array Value} {P : Program} {ops : Array Oper} {o : Oper} {a : Act} {w : World} {K : Act → World → Prop} {Q : Exit → Act → World → Prop} {E : Prop}
    (htm : tm = a.tmps) (hgd : o.guard = none) (s x : Operand) (t : TypeId) (hop : o.op = Op.call { callee := Callee.builtin Builtin.append, args := #[s, x], argTypes := #[t, t] })
    (base : Nat) (e : TypeId) (i : TypeInfo) (z : Value) (size bytes : Nat) (ht : P.underlying t = some (.slice e)) (hi : P.info? e = some i) (hz : i.zero = some z)
    (hsize : i.size = size) (hby : i.bytes = bytes) (hzs : z.cells.size = size) (hsz : 0 < size) (v : Value) (n : Nat) (xs : List Value) (hown : w.ownsRow base e size v n xs) (hs : a.eval s = v)
    (u : Value) (base2 m : Nat) (news : List Value) (hsrc : w.ownsRow base2 e size u m news) (hx : a.eval x = u) (h1 : ∀ u ∈ news, u.oneCell' = true) (h63 : n + m ≤ maxLen) (hbytes : (n + m) * bytes ≤ 140737488355328) (hbase : base ≤ w.heap.size)
    (hK : ∀ v' w', w'.ownsRow base e size v' (n + m) (xs ++ news) → w.grownBy w' v.ownBlock → (v'.ownBlock = v.ownBlock ∨ v'.ownBlock = some w.heap.size) → K (a.put o.dst v') w') :
    if Region.wanted o (yielded ops tm) = true then Oper.wp P o a w K Q else E := by
  have hw : Region.wanted o (yielded ops tm) = true := by simp [Region.wanted, hgd]
  rw [if_pos hw]
  obtain ⟨v', w', hr, k1, k2, k3⟩ := run_append_own_any (P := P) w base t o.type e i z size bytes ht hi hz hsize hby hzs hsz v n xs hown u base2 m news hsrc h1 h63 hbytes hbase
  unfold Oper.wp
  simp [execOp, hop, resolve, invoke, builtin, hs, hx, hr, Result.andThen]
  exact hK v' w' k1 k2 k3
/-- as one step of a region in its forced order -/
theorem wpList_append_own_any {P : Program} {ops : Array Oper} {rest : List Oper} {o : Oper} {a : Act} {w : World} {Q : Exit → Act → World → Prop} (hgd : o.guard = none) (s x : Operand) (t : TypeId)
    (ho : o.op = .call { callee := .builtin .append, args := #[s, x], argTypes := #[t, t] }) (base : Nat) (e : TypeId) (i : TypeInfo) (z : Value) (size bytes : Nat) (ht : P.underlying t = some (.slice e)) (hi : P.info? e = some i) (hz : i.zero = some z)
    (hsize : i.size = size) (hby : i.bytes = bytes) (hzs : z.cells.size = size) (hsz : 0 < size) (v : Value) (n : Nat) (xs : List Value) (hs : a.eval s = v) (hown : w.ownsRow base e size v n xs)
    (u : Value) (base2 m : Nat) (news : List Value) (hx : a.eval x = u) (hsrc : w.ownsRow base2 e size u m news) (h1 : ∀ u ∈ news, u.oneCell' = true) (h63 : n + m ≤ maxLen) (hbytes : (n + m) * bytes ≤ 140737488355328) (hbase : base ≤ w.heap.size)
    (h : ∀ v' w', w'.ownsRow base e size v' (n + m) (xs ++ news) → w.grownBy w' v.ownBlock → (v'.ownBlock = v.ownBlock ∨ v'.ownBlock = some w.heap.size) → wpList P ops Q rest (a.put o.dst v') w') : wpList P ops Q (o :: rest) a w := by
  refine wpList_plain hgd fun K hK => ?_
  obtain ⟨v', w', hr, h2, h3, h4⟩ := run_append_own_any (P := P) w base t o.type e i z size bytes ht hi hz hsize hby hzs hsz v n xs hown u base2 m news hsrc h1 h63 hbytes hbase
  unfold Oper.wp execOp
  simp only [ho, resolve, invoke, builtin, Sem.run_bind, Sem.run_pure, Result.andThen_ok, List.map_toArray, List.map_cons, List.map_nil, hs, hx, hr]
  exact hK _ _ (h v' w' h2 h3 h4)
end Go.Proofs.YtkpecagkpjabdacGreat
/- A table more at the end of a store of one's own. No condition. -/
namespace Go.Proofs.YtkpecagkpjabdacGreat
open Go.RowKit
set_option linter.unusedVariables false
set_option linter.unusedSimpArgs false
set_option maxRecDepth 100000
theorem tabL_snoc (ts : List M.Table) (hs : List (Value × Value)) (hl : hs.length = ts.length) (t : M.Table) (p : Value × Value) : tabL (ts ++ [t]) (hs ++ [p]) = tabL ts hs ++ [.int .i64 t.mask, p.1, p.2] := by
  unfold tabL
  rw [List.zip_append hl.symm, List.flatMap_append]
  rfl
theorem OwnTabs.nil (w : World) (base : Nat) : OwnTabs w base (.slice none 0 0) [] [] :=
  ⟨rfl, World.ownsRow_nil _ _ _ _, fun i t h h1 _ => by simp at h1, (List.nodup_nil : ([] : List Nat).Nodup)⟩
theorem OwnTabs.snoc {w W : World} {base : Nat} {vt vt' v1 v2 : Value} {ts : List M.Table} {hs : List (Value × Value)} {t : M.Table} (h : OwnTabs w base vt ts hs)
    (hrow : W.ownsRow base 80 3 vt' (ts.length + 1) (tabL ts hs ++ [.int .i64 t.mask, v1, v2])) (hsame : ∀ g, base ≤ g → g < w.heap.size → vt.ownBlock ≠ some g → W.heap[g]? = w.heap[g]?)
    (k1 : W.ownsRow base 3 1 v1 t.ids.length (t.ids.map (Value.int .i64))) (k2 : W.ownsRow base 23 8 v2 t.rows.length (t.rows.flatMap rowL))
    (n1 : ∀ g, v1.ownBlock = some g → w.heap.size ≤ g) (n2 : ∀ g, v2.ownBlock = some g → w.heap.size ≤ g) (hne : ∀ g, v1.ownBlock = some g → v2.ownBlock ≠ some g)
    (hat : vt'.ownBlock = vt.ownBlock ∨ ∃ g, vt'.ownBlock = some g ∧ w.heap.size ≤ g ∧ v1.ownBlock ≠ some g ∧ v2.ownBlock ≠ some g) : OwnTabs W base vt' (ts ++ [t]) (hs ++ [(v1, v2)]) := by
  have hl := h.len
  have hold : ∀ g ∈ blks vt hs, base ≤ g ∧ g < w.heap.size := fun g hg => h.blk hg
  have hnd := h.apart
  have hrest := blks_rest hnd
  have hmem : ∀ g, g ∈ ((hs.flatMap fun h => [h.1, h.2]).filterMap Value.ownBlock) → base ≤ g ∧ g < w.heap.size := by
    intro g hg
    refine hold g ?_
    unfold blks
    cases e : vt.ownBlock
    · rw [List.filterMap_cons, e]; exact hg
    · rw [List.filterMap_cons, e]; exact List.mem_cons_of_mem _ hg
  have hnvt : ∀ g, vt.ownBlock = some g → g ∉ ((hs.flatMap fun h => [h.1, h.2]).filterMap Value.ownBlock) := by
    intro g e hg
    unfold blks at hnd
    rw [List.filterMap_cons, e] at hnd
    exact (List.nodup_cons.1 hnd).1 hg
  have hvt' : ∀ g, vt'.ownBlock = some g → g ∉ ((hs.flatMap fun h => [h.1, h.2]).filterMap Value.ownBlock) := by
    intro g e hg
    rcases hat with k | ⟨g', e', hg', _⟩
    · exact hnvt g (k ▸ e) hg
    · rw [e'] at e
      simp only [Option.some.injEq] at e
      have := hmem g hg
      omega
  have hvt1 : ∀ g, vt'.ownBlock = some g → v1.ownBlock ≠ some g ∧ v2.ownBlock ≠ some g := by
    intro g e
    rcases hat with k | ⟨g', e', _, a, b⟩
    · rw [k] at e
      have := (h.row.lt g e).2
      exact ⟨fun e1 => by have := n1 g e1; omega, fun e1 => by have := n2 g e1; omega⟩
    · rw [e'] at e
      simp only [Option.some.injEq] at e
      subst e
      exact ⟨a, b⟩
  refine ⟨by simp [hl], ?_, ?_, ?_⟩
  · rw [List.length_append, List.length_singleton, tabL_snoc ts hs hl]
    exact hrow
  · intro i t' p h1 h2
    rcases Nat.lt_or_ge i ts.length with hi | hi
    · rw [List.getElem?_append_left hi] at h1
      rw [List.getElem?_append_left (by omega)] at h2
      have k := h.each i t' p h1 h2
      have hm := List.mem_of_getElem? h2
      have hb : ∀ v, v = p.1 ∨ v = p.2 → ∀ g, v.ownBlock = some g → vt.ownBlock ≠ some g := by
        intro v hv g hg e
        refine hnvt g e (List.mem_filterMap.2 ⟨v, List.mem_flatMap.2 ⟨p, hm, ?_⟩, hg⟩)
        rcases hv with rfl | rfl <;> simp
      exact ⟨own_same k.ids (fun g hg => hsame g (k.ids.lt g hg).1 (k.ids.lt g hg).2 (hb _ (.inl rfl) g hg)), own_same k.rows (fun g hg => hsame g (k.rows.lt g hg).1 (k.rows.lt g hg).2 (hb _ (.inr rfl) g hg))⟩
    · rw [List.getElem?_append_right hi] at h1
      rw [List.getElem?_append_right (by omega)] at h2
      have hlt := (List.getElem?_eq_some_iff.1 h1).1
      simp only [List.length_singleton] at hlt
      have e0 : i - ts.length = 0 := by omega
      have e1 : i - hs.length = 0 := by omega
      rw [e0] at h1
      rw [e1] at h2
      simp only [List.getElem?_cons_zero, Option.some.injEq] at h1 h2
      subst h1; subst h2
      exact ⟨k1, k2⟩
  · have hnew : ((hs ++ [(v1, v2)]).flatMap fun h => [h.1, h.2]).filterMap Value.ownBlock = ((hs.flatMap fun h => [h.1, h.2]).filterMap Value.ownBlock) ++ [v1, v2].filterMap Value.ownBlock := by
      rw [List.flatMap_append, List.filterMap_append]
      simp
    have hap : ((hs.flatMap fun h => [h.1, h.2]).filterMap Value.ownBlock ++ [v1, v2].filterMap Value.ownBlock).Nodup := by
      rw [List.nodup_append]
      refine ⟨hrest, ?_, ?_⟩
      · cases e1 : v1.ownBlock <;> cases e2 : v2.ownBlock <;> simp [List.filterMap_cons, e1, e2]
        rename_i a b
        intro e
        exact hne a e1 (by rw [e2, e])
      · intro a ha b hb e
        subst e
        have := hmem a ha
        obtain ⟨v, hv, e⟩ := List.mem_filterMap.1 hb
        simp only [List.mem_cons, List.not_mem_nil, or_false] at hv
        rcases hv with rfl | rfl
        · have := n1 a e; omega
        · have := n2 a e; omega
    unfold blks
    cases e : vt'.ownBlock with
    | none => rw [List.filterMap_cons, e, hnew]; exact hap
    | some g =>
      rw [List.filterMap_cons, e, hnew]
      refine List.nodup_cons.2 ⟨?_, hap⟩
      rw [List.mem_append]
      rintro (hg | hg)
      · exact hvt' g e hg
      · obtain ⟨v, hv, ev⟩ := List.mem_filterMap.1 hg
        simp only [List.mem_cons, List.not_mem_nil, or_false] at hv
        rcases hv with rfl | rfl
        · exact (hvt1 g e).1 ev
        · exact (hvt1 g e).2 ev
end Go.Proofs.YtkpecagkpjabdacGreat
/- The contract of New. Condition: numbers of 64 bits. -/
namespace Go.Proofs.YtkpecagkpjabdacGreat
open Go.RowKit
set_option linter.unusedVariables false
set_option linter.unusedSimpArgs false
set_option maxRecDepth 100000
set_option maxHeartbeats 4000000 in
theorem new_calls (wide high fall : Int) (w : World) (hg : M.goodW ⟨⟨[], 0⟩, fall, wide, high⟩ = true) :
    Calls Tryz.prog 16 #[.int .i64 wide, .int .i64 high, .int .i64 fall] w fun e w' => ∃ g, e = .returned (.tuple #[.pointer (some ⟨g, 0, none⟩), .int .i64 0]) ∧ GameAt w' (fun b => w.heap.size ≤ b ∧ b < w'.heap.size) g ⟨⟨⟨[], 0⟩, fall, wide, high⟩, [], 0⟩ none 0 (.slice none 0 0) [] ∧ Below w.heap.size w w' := by
  have HG := Lib.hid (fun U => goodWorld_calls (w := U) (vt := .slice none 0 0) (d := ⟨⟨[], 0⟩, fall, wide, high⟩) (nil_store U 0) nil_in)
  rw [hg] at HG
  clear hg
  go_enter Tryz.func16, Tryz.ntmps16
  go_wp2_with (go_at_call 39; go_loud (refine (HG.out _).mono ?_; rintro e w1 ⟨rfl, hb1⟩; have K1 : Below w.heap.size w w1 := (show Below w.heap.size w _ from (by repeat first | with_reducible assumption | with_reducible exact Below.refl _ _ | with_reducible apply Below.drew | with_reducible apply below_drewN | with_reducible apply Below.alloc (hB := (by first | omega | (simp; done) | (simp; omega))) | with_reducible apply Below.setCell (hp := (by first | omega | (simp; done) | (simp; omega))))).trans (hb1.mono (by first | omega | (simp; done) | (simp; omega))); have hz1 := hb1.size; (try simp at hz1); have b1 : Blk w1 w.heap.size 33 #[.slice none 0 0, .int .i64 0, .int .i64 fall, .int .i64 wide, .int .i64 high] := Blk.below (Blk.new_at rfl) hb1 (by first | omega | (simp; done) | (simp; omega)); have y0 := b1.cell 0; have y1 := b1.cell 1; have y2 := b1.cell 2; have y3 := b1.cell 3; have y4 := b1.cell 4; simp at y0 y1 y2 y3 y4; have ly := b1.lt))
  go_ret2
  refine ⟨w1.heap.size, rfl, ⟨Blk.new_at rfl, ⟨by omega, by simp⟩, (fun U _ _ => nil_store U 0), World.ownsRow_nil _ _ _ _, rfl, (fun b e => by cases e), fun i d v h1 _ => by simp at h1⟩, ?_⟩
  exact (by repeat first | with_reducible assumption | with_reducible exact Below.refl _ _ | with_reducible apply Below.drew | with_reducible apply below_drewN | with_reducible apply Below.alloc (hB := (by first | omega | (simp; done) | (simp; omega))) | with_reducible apply Below.setCell (hp := (by first | omega | (simp; done) | (simp; omega))))
end Go.Proofs.YtkpecagkpjabdacGreat
