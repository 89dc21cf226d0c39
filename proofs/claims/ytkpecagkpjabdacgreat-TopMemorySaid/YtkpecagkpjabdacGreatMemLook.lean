/- The contract of TopMemory's callback: the other game answers the same; what was told is written over, and both games stand as they stood. Condition: both games lie in memory, apart from each other. -/
import Derived.Test.YtkpecagkpjabdacGreatMemDraw
import Derived.Test.YtkpecagkpjabdacGreatGameSame
import Derived.Test.YtkpecagkpjabdacGreatGameReply
import Derived.Test.YtkpecagkpjabdacGreatBagA
import Derived.Test.YtkpecagkpjabdacGreatOrderRows
import Derived.Test.YtkpecagkpjabdacGreatBagS
import Derived.Test.YtkpecagkpjabdacGreatGameTwoB
import Derived.Deep.RegionWith
import Derived.Deep.LoopGhost
namespace Go.Proofs.YtkpecagkpjabdacGreat
open Go.RowKit
set_option linter.unusedVariables false
set_option linter.unusedSimpArgs false
set_option maxRecDepth 100000
/-- rows of two types never lie in one block -/
theorem own_types {w : World} {base base' : Nat} {e e' : TypeId} {k k' n n' : Nat} {v v' : Value} {xs xs' : List Value} (h : w.ownsRow base e k v n xs) (h' : w.ownsRow base' e' k' v' n' xs') (hne : e ≠ e') : ∀ b, v.ownBlock = some b → v'.ownBlock ≠ some b := by
  intro b e1 e2
  rcases h.2 with ⟨rfl, _⟩ | ⟨g, cap, cur, rfl, _, hg, _⟩
  · cases e1
  · rcases h'.2 with ⟨rfl, _⟩ | ⟨g', cap', cur', rfl, _, hg', _⟩
    · cases e2
    · simp only [Value.ownBlock] at e1 e2
      obtain rfl : g = b := by simpa using e1
      obtain rfl : g' = g := by simpa using e2
      rw [hg] at hg'
      simp only [Option.some.injEq, Obj.cells.injEq] at hg'
      exact hne hg'.2.1
/-- the other game's Do, and whether both replies are alike -/
theorem mem_first {W0 : World} {R : Nat → Prop} {h : Nat} {G0 G1 : M.Game} {a : Option Addr} {c : Nat} {sv : Value} {hs : List Value} (hh : GameAt W0 R h G0 a c sv hs) (hR : ∀ b, R b → b < W0.heap.size) {x : M.Act} {r : M.Reply} (hd : M.doAct G0 x = (G1, r)) (hG : M.GoodG G0) (h0 : 0 ≤ G0.acts) (hx : ActIn x) :
    Calls Tryz.prog 15 #[.pointer (some ⟨h, 0, none⟩), actV x] W0 fun e W' => ∃ gg : RG, e = .returned (replyV r (.slice gg.ai r.ids.length gg.ci) (.slice gg.am r.met.length gg.cm)) ∧ (fun gg W' => ∃ (R' : Nat → Prop) (a : Option Addr) (c : Nat) (sv : Value) (hs : List Value), GameAt W' R' h G1 a c sv hs ∧ (∀ b, R' b → (R b ∨ W0.heap.size ≤ b) ∧ b < W'.heap.size) ∧ Only R W0 W' ∧ IntsAt W' 0 (.slice gg.ai r.ids.length gg.ci) r.ids ∧ PairsAt W' 0 (.slice gg.am r.met.length gg.cm) r.met) gg W' := by
  refine (do_calls2 hh hR hG h0 hx hd).mono ?_
  rintro e w' ⟨ai, ci, am, cm, Q', a2, c2, sv2, hs2, rfl, hg2, hq2, ho, hi, hm⟩
  exact ⟨⟨ai, ci, am, cm⟩, rfl, Q', a2, c2, sv2, hs2, hg2, fun b q => ⟨(hq2 b q).1, (hq2 b q).2.1⟩, ho, Lies.mono (Lies.of_owns hi) (Nat.zero_le _), Lies.mono (Lies.of_owns hm) (Nat.zero_le _)⟩
theorem mem_second {W0 : World} {R : Nat → Prop} {h : Nat} {G1 : M.Game} {r : M.Reply} {ids met : Value} {base : Nat} (hids : W0.ownsRow base 3 1 ids r.ids.length (r.ids.map (Value.int .i64))) (hmet : W0.ownsRow base 75 2 met r.met.length (r.met.flatMap pairL)) (hni : ∀ b, R b → ids.ownBlock ≠ some b) (hnm : ∀ b, R b → met.ownBlock ≠ some b) (gg : RG) (W : World) (hp : (fun gg W' => ∃ (R' : Nat → Prop) (a : Option Addr) (c : Nat) (sv : Value) (hs : List Value), GameAt W' R' h G1 a c sv hs ∧ (∀ b, R' b → (R b ∨ W0.heap.size ≤ b) ∧ b < W'.heap.size) ∧ Only R W0 W' ∧ IntsAt W' 0 (.slice gg.ai r.ids.length gg.ci) r.ids ∧ PairsAt W' 0 (.slice gg.am r.met.length gg.cm) r.met) gg W) :
    Calls Tryz.prog 25 #[replyV r (.slice gg.ai r.ids.length gg.ci) (.slice gg.am r.met.length gg.cm), replyV r ids met] W fun e W' => e = .returned (.bool true) ∧ (fun W' => ∃ (R' : Nat → Prop) (a : Option Addr) (c : Nat) (sv : Value) (hs : List Value), GameAt W' R' h G1 a c sv hs ∧ (∀ b, R' b → (R b ∨ W0.heap.size ≤ b) ∧ b < W'.heap.size) ∧ Only R W0 W') W' := by
  obtain ⟨R', a, c, sv, hs, hg, hr, ho, hi, hm⟩ := hp
  refine (sameReply_calls hi hm (Lies.mono (Lies.of_owns (own_only hids ho hni)) (Nat.zero_le _)) (Lies.mono (Lies.of_owns (own_only hmet ho hnm)) (Nat.zero_le _))).mono ?_
  rintro e W' ⟨rfl, hb⟩
  exact ⟨rfl, R', a, c, sv, hs, hg.below hb, fun b q => ⟨(hr b q).1, Nat.lt_of_lt_of_le (hr b q).2 hb.size⟩, ho.more hb⟩
theorem field_tabs (v0 v1 : Value) (W : World) : (Instr.field 31 (.agg #[v0, v1]) 0).run Tryz.prog W = .ok v0 W := by kernel_rfl
theorem set_self {α : Type} {l : List α} {i : Nat} {p : α} (h : l[i]? = some p) : l.set i p = l := by
  apply List.ext_getElem?
  intro j
  by_cases hj : i = j
  · subst hj
    rw [List.getElem?_set_self (List.getElem?_eq_some_iff.1 h).1, h]
  · rw [List.getElem?_set_ne hj]
/-- one place of one table written over -/
theorem tabs_over {w : World} {base : Nat} {vt : Value} {ts : List M.Table} {hs : List (Value × Value)} (h : OwnTabs w base vt ts hs) {n j : Nat} {t : M.Table} {gi ni ci gr nr cr : Nat} (ht : ts[n]? = some t)
    (hp : hs[n]? = some (.slice (some ⟨gi, 0, none⟩) ni ci, .slice (some ⟨gr, 0, none⟩) nr cr)) (hj2 : j < t.rows.length) :
    OwnTabs ((((((((((w.setCell ⟨gi, j, none⟩ (.int .i64 (-1))).setCell ⟨gr, j * 8, none⟩ (.int .i64 0)).setCell ⟨gr, j * 8 + 1, none⟩ (.int .i64 0)).setCell ⟨gr, j * 8 + 2, none⟩ (.int .i64 0)).setCell ⟨gr, j * 8 + 3, none⟩ (.int .i64 0)).setCell ⟨gr, j * 8 + 4, none⟩ (.int .i64 0)).setCell ⟨gr, j * 8 + 5, none⟩ (.int .i64 0)).setCell ⟨gr, j * 8 + 6, none⟩ (.int .i64 0)).setCell ⟨gr, j * 8 + 7, none⟩ (.int .i64 0))) base vt (ts.set n { t with ids := t.ids.set j (-1), rows := t.rows.set j M.row0 }) hs ∧ (∀ b, b ≠ gi → b ≠ gr → ((((((((((w.setCell ⟨gi, j, none⟩ (.int .i64 (-1))).setCell ⟨gr, j * 8, none⟩ (.int .i64 0)).setCell ⟨gr, j * 8 + 1, none⟩ (.int .i64 0)).setCell ⟨gr, j * 8 + 2, none⟩ (.int .i64 0)).setCell ⟨gr, j * 8 + 3, none⟩ (.int .i64 0)).setCell ⟨gr, j * 8 + 4, none⟩ (.int .i64 0)).setCell ⟨gr, j * 8 + 5, none⟩ (.int .i64 0)).setCell ⟨gr, j * 8 + 6, none⟩ (.int .i64 0)).setCell ⟨gr, j * 8 + 7, none⟩ (.int .i64 0))).heap[b]? = w.heap[b]?) ∧ ((((((((((w.setCell ⟨gi, j, none⟩ (.int .i64 (-1))).setCell ⟨gr, j * 8, none⟩ (.int .i64 0)).setCell ⟨gr, j * 8 + 1, none⟩ (.int .i64 0)).setCell ⟨gr, j * 8 + 2, none⟩ (.int .i64 0)).setCell ⟨gr, j * 8 + 3, none⟩ (.int .i64 0)).setCell ⟨gr, j * 8 + 4, none⟩ (.int .i64 0)).setCell ⟨gr, j * 8 + 5, none⟩ (.int .i64 0)).setCell ⟨gr, j * 8 + 6, none⟩ (.int .i64 0)).setCell ⟨gr, j * 8 + 7, none⟩ (.int .i64 0))).heap.size = w.heap.size ∧ ((((((((((w.setCell ⟨gi, j, none⟩ (.int .i64 (-1))).setCell ⟨gr, j * 8, none⟩ (.int .i64 0)).setCell ⟨gr, j * 8 + 1, none⟩ (.int .i64 0)).setCell ⟨gr, j * 8 + 2, none⟩ (.int .i64 0)).setCell ⟨gr, j * 8 + 3, none⟩ (.int .i64 0)).setCell ⟨gr, j * 8 + 4, none⟩ (.int .i64 0)).setCell ⟨gr, j * 8 + 5, none⟩ (.int .i64 0)).setCell ⟨gr, j * 8 + 6, none⟩ (.int .i64 0)).setCell ⟨gr, j * 8 + 7, none⟩ (.int .i64 0))).os = w.os ∧ ((((((((((w.setCell ⟨gi, j, none⟩ (.int .i64 (-1))).setCell ⟨gr, j * 8, none⟩ (.int .i64 0)).setCell ⟨gr, j * 8 + 1, none⟩ (.int .i64 0)).setCell ⟨gr, j * 8 + 2, none⟩ (.int .i64 0)).setCell ⟨gr, j * 8 + 3, none⟩ (.int .i64 0)).setCell ⟨gr, j * 8 + 4, none⟩ (.int .i64 0)).setCell ⟨gr, j * 8 + 5, none⟩ (.int .i64 0)).setCell ⟨gr, j * 8 + 6, none⟩ (.int .i64 0)).setCell ⟨gr, j * 8 + 7, none⟩ (.int .i64 0))).tape = w.tape ∧ ((((((((((w.setCell ⟨gi, j, none⟩ (.int .i64 (-1))).setCell ⟨gr, j * 8, none⟩ (.int .i64 0)).setCell ⟨gr, j * 8 + 1, none⟩ (.int .i64 0)).setCell ⟨gr, j * 8 + 2, none⟩ (.int .i64 0)).setCell ⟨gr, j * 8 + 3, none⟩ (.int .i64 0)).setCell ⟨gr, j * 8 + 4, none⟩ (.int .i64 0)).setCell ⟨gr, j * 8 + 5, none⟩ (.int .i64 0)).setCell ⟨gr, j * 8 + 6, none⟩ (.int .i64 0)).setCell ⟨gr, j * 8 + 7, none⟩ (.int .i64 0))).output = w.output := by
  have k := h.each n t _ ht hp
  have hgg : gi ≠ gr := fun e => blks_pair h.apart hp (g := gi) rfl (by rw [e]; rfl)
  have f1 : FarO gi w (w.setCell ⟨gi, j, none⟩ (.int .i64 (-1))) := (FarO.refl _ _).set _ _
  have f2 : FarO gr (w.setCell ⟨gi, j, none⟩ (.int .i64 (-1))) ((((((((((w.setCell ⟨gi, j, none⟩ (.int .i64 (-1))).setCell ⟨gr, j * 8, none⟩ (.int .i64 0)).setCell ⟨gr, j * 8 + 1, none⟩ (.int .i64 0)).setCell ⟨gr, j * 8 + 2, none⟩ (.int .i64 0)).setCell ⟨gr, j * 8 + 3, none⟩ (.int .i64 0)).setCell ⟨gr, j * 8 + 4, none⟩ (.int .i64 0)).setCell ⟨gr, j * 8 + 5, none⟩ (.int .i64 0)).setCell ⟨gr, j * 8 + 6, none⟩ (.int .i64 0)).setCell ⟨gr, j * 8 + 7, none⟩ (.int .i64 0))) := (((((((((FarO.refl _ _).set _ _).set _ _).set _ _).set _ _).set _ _).set _ _).set _ _).set _ _)
  have n1 : ni = t.ids.length := by obtain ⟨a, c, e⟩ := own_form k.ids; simp only [Value.slice.injEq] at e; exact e.2.1
  have n2 : nr = t.rows.length := by obtain ⟨a, c, e⟩ := own_form k.rows; simp only [Value.slice.injEq] at e; exact e.2.1
  subst n1 n2
  have i1 := ints_put' k.ids j (-1)
  have r1 : (w.setCell ⟨gi, j, none⟩ (.int .i64 (-1))).ownsRow base 23 8 (.slice (some ⟨gr, 0, none⟩) t.rows.length cr) t.rows.length (t.rows.flatMap rowL) := own_same k.rows (fun b e => f1.1 b (by rintro rfl; simp [Value.ownBlock] at e; exact hgg e.symm))
  have r2 := rows_put8 r1 j hj2 M.row0
  have i2 : ((((((((((w.setCell ⟨gi, j, none⟩ (.int .i64 (-1))).setCell ⟨gr, j * 8, none⟩ (.int .i64 0)).setCell ⟨gr, j * 8 + 1, none⟩ (.int .i64 0)).setCell ⟨gr, j * 8 + 2, none⟩ (.int .i64 0)).setCell ⟨gr, j * 8 + 3, none⟩ (.int .i64 0)).setCell ⟨gr, j * 8 + 4, none⟩ (.int .i64 0)).setCell ⟨gr, j * 8 + 5, none⟩ (.int .i64 0)).setCell ⟨gr, j * 8 + 6, none⟩ (.int .i64 0)).setCell ⟨gr, j * 8 + 7, none⟩ (.int .i64 0))).ownsRow base 3 1 (.slice (some ⟨gi, 0, none⟩) t.ids.length ci) t.ids.length ((t.ids.set j (-1)).map (Value.int .i64)) := own_same i1 (fun b e => f2.1 b (by rintro rfl; simp [Value.ownBlock] at e; exact hgg e))
  have nt := fun g (hg : vt.ownBlock = some g) => blks_vt h.apart hg (List.mem_of_getElem? hp)
  refine ⟨?_, fun b h1 h2 => (f2.1 b h2).trans (f1.1 b h1), f2.2.1.trans f1.2.1, f2.2.2.1.trans f1.2.2.1, f2.2.2.2.1.trans f1.2.2.2.1, f2.2.2.2.2.trans f1.2.2.2.2⟩
  have key := h.turn (W := (((((((((w.setCell ⟨gi, j, none⟩ (.int .i64 (-1))).setCell ⟨gr, j * 8, none⟩ (.int .i64 0)).setCell ⟨gr, j * 8 + 1, none⟩ (.int .i64 0)).setCell ⟨gr, j * 8 + 2, none⟩ (.int .i64 0)).setCell ⟨gr, j * 8 + 3, none⟩ (.int .i64 0)).setCell ⟨gr, j * 8 + 4, none⟩ (.int .i64 0)).setCell ⟨gr, j * 8 + 5, none⟩ (.int .i64 0)).setCell ⟨gr, j * 8 + 6, none⟩ (.int .i64 0)).setCell ⟨gr, j * 8 + 7, none⟩ (.int .i64 0))) (t' := { t with ids := t.ids.set j (-1), rows := t.rows.set j M.row0 }) (q := (.slice (some ⟨gi, 0, none⟩) t.ids.length ci, .slice (some ⟨gr, 0, none⟩) t.rows.length cr)) ht hp rfl
    (by
      rw [set_self hp]
      exact own_same h.row (fun b e => (f2.1 b (fun eb => (nt b e).2 (by rw [eb]; rfl))).trans (f1.1 b (fun eb => (nt b e).1 (by rw [eb]; rfl)))))
    ⟨by simpa using i2, by simp only [List.length_set]; exact r2⟩ rfl rfl (fun b hb _ e1 e2 => (f2.1 b (by rintro rfl; exact e2 rfl)).trans (f1.1 b (by rintro rfl; exact e1 rfl)))
  rw [set_self hp] at key
  exact key
set_option maxHeartbeats 8000000 in
set_option maxRecDepth 100000 in
theorem memLook_calls {W : World} {Q R : Nat → Prop} {g h bx base : Nat} {G0 G1 : M.Game} {a a' : Option Addr} {c c' : Nat} {sv sv' : Value} {hs hs' : List Value} {x : M.Act} {r : M.Reply} {ids met : Value} (hg : GameAt W Q g G1 a c sv hs) (hQ : ∀ b, Q b → b < W.heap.size) (hh : GameAt W R h G0 a' c' sv' hs') (hR : ∀ b, R b → b < W.heap.size)
    (hQR : ∀ b, Q b → ¬ R b) (hni : ∀ b, R b ∨ Q b → ids.ownBlock ≠ some b) (hnm : ∀ b, R b ∨ Q b → met.ownBlock ≠ some b) (hbx : Blk W bx 28 #[.pointer (some ⟨h, 0, none⟩)]) (hnb : ¬ R bx ∧ ids.ownBlock ≠ some bx ∧ met.ownBlock ≠ some bx)
    (hids : W.ownsRow base 3 1 ids r.ids.length (r.ids.map (Value.int .i64))) (hmet : W.ownsRow base 75 2 met r.met.length (r.met.flatMap pairL)) (hd : M.doAct G0 x = (G1, r)) (hG : M.GoodG G0) (hG1 : M.GoodG G1) (h0 : 0 ≤ G0.acts) (hx : ActIn x) :
    Calls Tryz.prog 30 #[.pointer (some ⟨g, 0, none⟩), actV x, replyV r ids met, .pointer (some ⟨bx, 0, none⟩)] W fun e W' => e = .returned (.bool true) ∧ Only (fun b => R b ∨ ids.ownBlock = some b ∨ met.ownBlock = some b) W W' ∧
      ∃ (R' : Nat → Prop) (a : Option Addr) (c : Nat) (sv : Value) (hs : List Value), GameAt W' R' h G1 a c sv hs ∧ (∀ b, R' b → (R b ∨ W.heap.size ≤ b) ∧ b < W'.heap.size) := by
  obtain ⟨ai, ci, rfl⟩ := own_form hids
  obtain ⟨am, cm, rfl⟩ := own_form hmet
  have HG := Lib.hid hg
  have HH := Lib.hid hh
  have HR := Lib.hid hR
  have HQ := Lib.hid hQ
  have HQR := Lib.hid hQR
  have HNI := Lib.hid hni
  have HNM := Lib.hid hnm
  have HBX := Lib.hid hbx
  have HNB := Lib.hid hnb
  have HIDS := Lib.hid hids
  have HMET := Lib.hid hmet
  have HDD := Lib.hid hd
  have HGG := Lib.hid hG
  have HGG1 := Lib.hid hG1
  have HX := Lib.hid hx
  have lg := hg.blk.lt
  have lh := hh.blk.lt
  have lbx := hbx.lt
  have HIM : Hid (∀ b, (Value.slice ai r.ids.length ci).ownBlock = some b → (Value.slice am r.met.length cm).ownBlock ≠ some b) := Lib.hid (own_types hids hmet (by decide))
  have hlen : r.ids.length ≤ 9223372036854775807 := by have := (Lies.of_owns hids).2.1; unfold maxLen at this; omega
  have hlem : r.met.length ≤ 9223372036854775807 := by have := (Lies.of_owns hmet).2.1; unfold maxLen at this; omega
  clear hg hh hR hQ hQR hni hnm hbx hnb hids hmet hd hG hG1 hx
  go_enter Tryz.func30, Tryz.ntmps30
  go_upto_region 1 with fail
  refine wp_called (fun W0 hW0 => ?_)
  have B5 : Blk W0 W.heap.size 27 (actL x).toArray := by rw [hW0]; exact (Blk.new_at rfl).alloc _
  have B6 : Blk W0 (W.heap.size + 1) 40 #[.int .i64 r.code, .int .i64 r.n, .slice ai r.ids.length ci, .slice am r.met.length cm] := by rw [hW0]; exact Blk.new_at (by simp)
  have K0 : Below W.heap.size W W0 := by rw [hW0]; exact (by repeat first | with_reducible assumption | with_reducible exact Below.refl _ _ | with_reducible apply Below.drew | with_reducible apply below_drewN | with_reducible apply Below.alloc (hB := (by first | omega | (simp; done) | (simp; omega))) | with_reducible apply Below.setCell (hp := (by first | omega | (simp; done) | (simp; omega))))
  have kz0 : W0.heap.size = W.heap.size + 2 := by rw [hW0]; simp
  have HB5 := Lib.hid B5
  have HB6 := Lib.hid B6
  have HK0 := Lib.hid K0
  have HKZ0 := Lib.hid kz0
  have kz0' : W.heap.size ≤ W0.heap.size := K0.size
  clear hW0 B5 B6 K0 kz0
  refine DG.wp_named (fun A hA => ?_)
  show Code.wp Tryz.prog mem1C _ _ _
  rw [mem1C_is]
  refine wp_region_any (by kernel_rfl) ?_
  rw [mem1Ops_size]
  obtain ⟨U0, hU⟩ : ∃ U, U = W0.drew := ⟨_, rfl⟩
  show wpAny _ _ _ _ _ _ _ W0.drew
  rw [← hU]
  replace HB5 : Hid (Blk U0 W.heap.size 27 (actL x).toArray) := Lib.hid (by rw [hU]; exact HB5.out)
  replace HB6 : Hid (Blk U0 (W.heap.size + 1) 40 #[.int .i64 r.code, .int .i64 r.n, .slice ai r.ids.length ci, .slice am r.met.length cm]) := Lib.hid (by rw [hU]; exact HB6.out)
  replace HK0 : Hid (Below W.heap.size W U0) := Lib.hid (by rw [hU]; exact HK0.out.drew)
  replace HKZ0 : Hid (U0.heap.size = W.heap.size + 2) := Lib.hid (by rw [hU]; exact HKZ0.out)
  replace kz0' : W.heap.size ≤ U0.heap.size := HK0.out.size
  clear hU W0
  refine mem1_region (hh := h) (bx := bx) (p5 := W.heap.size) (p6 := W.heap.size + 1) (x := x) (r := r) (ids := .slice ai r.ids.length ci) (met := .slice am r.met.length cm) (P2 := fun gg W' => ∃ (R' : Nat → Prop) (a : Option Addr) (c : Nat) (sv : Value) (hs : List Value), GameAt W' R' h G1 a c sv hs ∧ (∀ b, R' b → (R b ∨ U0.heap.size ≤ b) ∧ b < W'.heap.size) ∧ Only R U0 W' ∧ IntsAt W' 0 (.slice gg.ai r.ids.length gg.ci) r.ids ∧ PairsAt W' 0 (.slice gg.am r.met.length gg.cm) r.met) (PP := fun W' => ∃ (R' : Nat → Prop) (a : Option Addr) (c : Nat) (sv : Value) (hs : List Value), GameAt W' R' h G1 a c sv hs ∧ (∀ b, R' b → (R b ∨ U0.heap.size ≤ b) ∧ b < W'.heap.size) ∧ Only R U0 W') ⟨by rw [hA]; rfl, by rw [hA]; rfl, by rw [hA]; rfl, HBX.out.below HK0.out HBX.out.lt, HB5.out, (by rintro U (rfl | ⟨gg, R9, a9, c9, s9, h9, _, _, ho, _⟩); exact HB6.out; exact HB6.out.only ho (fun q => by have := HR.out _ q; omega)), ⟨_, _, _, rfl⟩, ⟨_, _, _, rfl⟩, mem_first (HH.out.below HK0.out) (fun b q => Nat.lt_of_lt_of_le (HR.out b q) kz0') HDD.out HGG.out h0 HX.out, mem_second (own_below HIDS.out HK0.out) (own_below HMET.out HK0.out) (fun b q => HNI.out b (.inl q)) (fun b q => HNM.out b (.inl q))⟩ (by rw [hA]; rfl) (by rw [hA]) ⟨none, 0, none, 0⟩ (by unfold mem1Mem; simp) ?_
  intro gg ll W1 hll hmm
  unfold mem1Mem at hmm
  rw [if_pos (hll 4 (by decide))] at hmm
  obtain ⟨R1, a1, c1, sv1, hs1, hg1, hr1, ho1⟩ := hmm
  rw [hA]
  simp only [mem1Val, List.getD_cons_zero, List.getD_cons_succ]
  simp only [DG.setQ, List.setIfInBounds_toArray, List.set_cons_zero, List.set_cons_succ]
  clear hA A hll
  have HH1 := Lib.hid hg1
  have HR1 := Lib.hid hr1
  have HO1 := Lib.hid ho1
  have kz1 := ho1.size
  have nR : ∀ b, W.heap.size ≤ b → ¬ R b := fun b hb q => by have := HR.out b q; omega
  have HB61 := Lib.hid (HB6.out.only ho1 (nR _ (by omega)))
  have HG1 := Lib.hid ((HG.out.below HK0.out).only ho1 HQR.out)
  have HI1 := Lib.hid (own_only (own_below HIDS.out HK0.out) ho1 (fun b q => HNI.out b (.inl q)))
  have HM1 := Lib.hid (own_only (own_below HMET.out HK0.out) ho1 (fun b q => HNM.out b (.inl q)))
  have HBX1 := Lib.hid ((HBX.out.below HK0.out HBX.out.lt).only ho1 HNB.out.1)
  have l61 := HB61.out.lt
  clear hg1 hr1 ho1 nR
  have c62 := HB61.out.cell 2
  have c63 := HB61.out.cell 3
  simp at c62 c63
  go_wp2_with fail
  clear c62 c63
  go_loopg [22] r.ids.length (fun gh i wr => ∃ (n : Nat) (xs : List Value), n ≤ r.ids.length ∧ i = .int .i64 n ∧ gh = r.ids.length - n ∧ wr.ownsRow base 3 1 (.slice ai r.ids.length ci) r.ids.length xs ∧ Only (fun b => (Value.slice ai r.ids.length ci).ownBlock = some b) W1 wr)
  case atStart => exact ⟨0, _, Nat.zero_le _, rfl, rfl, HI1.out, Only.refl _ _⟩
  case round =>
    obtain ⟨wo, hwo⟩ : ∃ wo, wo = wr := ⟨_, rfl⟩
    subst hwo
    obtain ⟨n, xs, hn, rfl, hgk, how, hon⟩ := hrel
    have HGK := Lib.hid hgk
    have HON := Lib.hid hon
    have HOW := Lib.hid how
    have ko := hon.size
    have b6 := HB61.out.only hon (fun e => by have := (HIDS.out.lt _ e).2; omega)
    have HB6o := Lib.hid b6
    have l6o := b6.lt
    have c62 := b6.cell 2
    have c63 := b6.cell 3
    simp at c62 c63
    clear hgk hon b6
    rcases Nat.lt_or_ge n r.ids.length with hlt | hge
    · obtain ⟨gi, capi, e8, b8, l8⟩ := own_val how (by omega)
      obtain ⟨rfl, rfl⟩ : ai = some ⟨gi, 0, none⟩ ∧ ci = capi := by simpa using e8
      have hxl := how.1
      obtain ⟨u, hu⟩ : ∃ u, xs[n]? = some u := ⟨_, List.getElem?_eq_getElem (by omega)⟩
      have x0 := (how.cellAt n (by omega)).trans hu
      have fz := fun j => how.frozenAt j
      have q0 : (0 : Int) ≤ (n : Int) := by omega
      have q1 : (n : Int) < (r.ids.length : Int) := by omega
      clear how e8 hxl hu
      go_wp2_with fail
      go_roundg (r.ids.length - (n + 1))
      case measure => rw [HGK.out]; omega
      case rel => exact ⟨n + 1, _, by omega, by go_num, rfl, own_put HOW.out n _, HON.out.setCell (p := ⟨gi, n, none⟩) (.inl rfl) _⟩
    · obtain rfl : n = r.ids.length := by omega
      have q9 : decide ((r.ids.length : Int) < (r.ids.length : Int)) = false := decide_eq_false (by omega)
      clear how
      go_wp2_with fail
      obtain ⟨wi, hwi⟩ : ∃ wi, wi = wo := ⟨_, rfl⟩
      subst hwi
      have HONI := HON
      have HMI : Hid (wi.ownsRow base 75 2 (.slice am r.met.length cm) r.met.length (r.met.flatMap pairL)) := Lib.hid (own_only HM1.out HONI.out (fun b e => HIM.out b e))
      clear q9 c62 c63
      go_loopg [33] r.met.length (fun gh i wr => ∃ (n : Nat) (xs : List Value), n ≤ r.met.length ∧ i = .int .i64 n ∧ gh = r.met.length - n ∧ wr.ownsRow base 75 2 (.slice am r.met.length cm) r.met.length xs ∧ Only (fun b => (Value.slice am r.met.length cm).ownBlock = some b) wi wr)
      case atStart => exact ⟨0, _, Nat.zero_le _, rfl, rfl, HMI.out, Only.refl _ _⟩
      case round =>
        obtain ⟨wq, hwq⟩ : ∃ wq, wq = wr := ⟨_, rfl⟩
        subst hwq
        obtain ⟨m, xs, hm, rfl, hgm, how, hon⟩ := hrel
        have HGM := Lib.hid hgm
        have HOM := Lib.hid hon
        have HOW2 := Lib.hid how
        have kq := hon.size
        have b6 := HB6o.out.only hon (fun e => by have := (HMET.out.lt _ e).2; omega)
        have HB6q := Lib.hid b6
        have l6q := b6.lt
        have c63 := b6.cell 3
        simp at c63
        clear hgm hon b6
        rcases Nat.lt_or_ge m r.met.length with hlt | hge
        · obtain ⟨gm, capm, e8, b8, l8⟩ := own_val how (by omega)
          obtain ⟨rfl, rfl⟩ : am = some ⟨gm, 0, none⟩ ∧ cm = capm := by simpa using e8
          have hxl := how.1
          obtain ⟨u, hu⟩ : ∃ u, xs[m * 2]? = some u := ⟨_, List.getElem?_eq_getElem (by omega)⟩
          obtain ⟨u1, hu1⟩ : ∃ u, xs[m * 2 + 1]? = some u := ⟨_, List.getElem?_eq_getElem (by omega)⟩
          have x0 := (how.cellAt (m * 2) (by omega)).trans hu
          have x1 := (how.cellAt (m * 2 + 1) (by omega)).trans hu1
          have fz := fun j => how.frozenAt j
          have q0 : (0 : Int) ≤ (m : Int) := by omega
          have q1 : (m : Int) < (r.met.length : Int) := by omega
          clear how e8 hxl hu hu1
          go_wp2_with fail
          go_roundg (r.met.length - (m + 1))
          case measure => rw [HGM.out]; omega
          case rel => exact ⟨m + 1, _, by omega, by go_num, rfl, own_put (own_put HOW2.out (m * 2) _) (m * 2 + 1) _, (HOM.out.setCell (p := ⟨gm, m * 2, none⟩) (.inl rfl) _).setCell (p := ⟨gm, m * 2 + 1, none⟩) (.inl rfl) _⟩
        · obtain rfl : m = r.met.length := by omega
          have q9 : decide ((r.met.length : Int) < (r.met.length : Int)) = false := decide_eq_false (by omega)
          clear how c63
          have HO1q : Hid (Only (fun b => (Value.slice ai r.ids.length ci).ownBlock = some b ∨ (Value.slice am r.met.length cm).ownBlock = some b) W1 wq) := Lib.hid ((HONI.out.wide (fun b _ e => .inl e)).trans (HOM.out.wide (fun b _ e => .inr e)))
          have HGq := Lib.hid (HG1.out.only HO1q.out (fun b q e => by rcases e with e | e; exact HNI.out b (.inr q) e; exact HNM.out b (.inr q) e))
          have HHq := Lib.hid (HH1.out.only HO1q.out (fun b q e => by
            have h1 := (HR1.out b q).1
            rcases e with e | e
            · rcases h1 with h1 | h1
              · exact HNI.out b (.inl h1) e
              · have := (HIDS.out.lt _ e).2; omega
            · rcases h1 with h1 | h1
              · exact HNM.out b (.inl h1) e
              · have := (HMET.out.lt _ e).2; omega))
          have HBXq := Lib.hid (HBX1.out.only HO1q.out (fun e => by rcases e with e | e; exact HNB.out.2.1 e; exact HNB.out.2.2 e))
          have lbq := HBXq.out.lt
          have FT := field_things
          have FS := field_tabs
          obtain ⟨D, hDD⟩ : ∃ D, D = G1.w := ⟨_, rfl⟩
          have HGW := Lib.hid (gworld_calls HGq.out HGG1.out)
          rw [← hDD] at HGW
          have HLE : Hid (∀ t ∈ D.things.tables, t.ids.length = t.rows.length) := Lib.hid (by rw [hDD]; exact fun t ht => (HGG1.out.w.things.1 t ht).2.1)
          have HD0 := Lib.hid hDD
          have hfew : D.things.tables.length ≤ 10 := by rw [hDD]; exact (good_bounds HGG1.out.w.things).few
          have HEB : Hid (∀ t ∈ D.things.tables, t.ids.length ≤ 10) := Lib.hid (by rw [hDD]; exact fun t ht => ((good_bounds HGG1.out.w.things).each t ht).1)
          clear hDD q9
          go_wp2_with (go_at_call 13; go_loud (refine HGW.out.mono ?_; rintro e wb ⟨aw, cw, hsw, rfl, how, hbb⟩; have HOT := Lib.hid how; have HBB := Lib.hid hbb; have kzb := hbb.size; clear how hbb))
          go_loopg [47] D.things.tables.length (fun gh i wr => ∃ (n : Nat) (ts : List M.Table), n ≤ D.things.tables.length ∧ i = .int .i64 n ∧ gh = D.things.tables.length - n ∧ (∀ t ∈ ts, t.ids.length = t.rows.length ∧ t.ids.length ≤ 10) ∧ OwnTabs wr (wq.heap.size + 1) (.slice aw D.things.tables.length cw) ts hsw ∧ Below wq.heap.size wb wr)
          case atStart => exact ⟨0, _, Nat.zero_le _, rfl, rfl, fun t ht => ⟨HLE.out t ht, HEB.out t ht⟩, HOT.out, Below.refl _ _⟩
          case round =>
            obtain ⟨wo2, hwo⟩ : ∃ wo, wo = wr := ⟨_, rfl⟩
            subst hwo
            obtain ⟨n, ts, hn, rfl, hgn, hle, hot, hbl⟩ := hrel
            have HGN := Lib.hid hgn
            have HTS := Lib.hid hle
            have HOT2 := Lib.hid hot
            have HBL := Lib.hid hbl
            have kb := hbl.size
            have hlts : ts.length = D.things.tables.length := by obtain ⟨a9, c9, e9⟩ := own_form hot.row; simp only [Value.slice.injEq] at e9; exact e9.2.1.symm
            have HLTS := Lib.hid hlts
            clear hgn hle hbl
            rcases Nat.lt_or_ge n D.things.tables.length with hlt | hge
            · obtain ⟨t, ht⟩ : ∃ t, ts[n]? = some t := ⟨_, List.getElem?_eq_getElem (by omega)⟩
              obtain ⟨b, o, cap', a1, cp1, a2, cp2, e, hlo, hp, c0, c1', c2', hi1, hi2⟩ := hot.tabs.at2 ht
              rw [hlts] at e
              obtain ⟨rfl, rfl⟩ : aw = some ⟨b, o, none⟩ ∧ cw = cap' := by simpa using e
              have hl10 := (HTS.out t (List.mem_of_getElem? ht)).2
              have HLT := Lib.hid (HTS.out t (List.mem_of_getElem? ht)).1
              have hr10 : t.rows.length ≤ 10 := by rw [← HLT.out]; exact hl10
              have HP := Lib.hid hp
              have HTT := Lib.hid ht
              clear e hlo hp hi1 hi2 ht hlts hot
              go_wp2_with fail
              obtain ⟨wl, hwl⟩ : ∃ wl, wl = wo2.alloc (.cells #[.int .i64 t.mask, .slice a1 t.ids.length cp1, .slice a2 t.rows.length cp2] 80) := ⟨_, rfl⟩
              rw [← hwl]
              have HBT : Hid (Blk wl wo2.heap.size 80 #[.int .i64 t.mask, .slice a1 t.ids.length cp1, .slice a2 t.rows.length cp2]) := Lib.hid (by rw [hwl]; exact Blk.new_at rfl)
              have HKL : Hid (Below wo2.heap.size wo2 wl) := Lib.hid (by rw [hwl]; exact (Below.refl _ _).alloc (Nat.le_refl _) _)
              have hzl : wo2.heap.size < wl.heap.size := HBT.out.lt
              have HOTL := Lib.hid (HOT2.out.same (Nat.le_refl _) (fun g _ h2 => HKL.out.block g h2))
              clear hwl c0 c1' c2'
              go_loopg [54] t.ids.length (fun gh i wr2 => ∃ (j : Nat) (ts2 : List M.Table) (t2 : M.Table), j ≤ t.ids.length ∧ i = .int .i64 j ∧ gh = t.ids.length - j ∧ (ts2[n]? = some t2 ∧ t2.ids.length = t.ids.length ∧ t2.rows.length = t.rows.length) ∧ (∀ t ∈ ts2, t.ids.length = t.rows.length ∧ t.ids.length ≤ 10) ∧ OwnTabs wr2 (wq.heap.size + 1) (.slice (some ⟨b, o, none⟩) D.things.tables.length cw) ts2 hsw ∧ Blk wr2 wo2.heap.size 80 #[.int .i64 t.mask, .slice a1 t.ids.length cp1, .slice a2 t.rows.length cp2] ∧ (∀ g ∈ blks (.slice (some ⟨b, o, none⟩) D.things.tables.length cw) hsw, g < wo2.heap.size) ∧ Below wq.heap.size wb wr2)
              case atStart => exact ⟨0, ts, t, Nat.zero_le _, rfl, rfl, ⟨HTT.out, rfl, rfl⟩, HTS.out, HOTL.out, HBT.out, fun g hg => (HOT2.out.blk hg).2, HBL.out.trans (HKL.out.mono (by have := HBL.out.size; omega))⟩
              case round =>
                obtain ⟨wr3, hwr⟩ : ∃ wo, wo = wr := ⟨_, rfl⟩
                subst hwr
                obtain ⟨j, ts2, t2, hj, rfl, hgj, ⟨ht2, hl2, hl2'⟩, hle2, hot2, hbt2, hbk, hbl2⟩ := hrel
                have HGJ := Lib.hid hgj
                have HT2 := Lib.hid ht2
                have HL2 := Lib.hid hl2
                have HL2' := Lib.hid hl2'
                have HTS2 := Lib.hid hle2
                have HO2 := Lib.hid hot2
                have HBT2 := Lib.hid hbt2
                have HBK := Lib.hid hbk
                have HBL2 := Lib.hid hbl2
                have kr := hbl2.size
                clear hgj ht2 hle2 hbt2 hbk hbl2
                rcases Nat.lt_or_ge j t.ids.length with hltj | hgej
                · have kk := hot2.each n t2 _ HT2.out HP.out
                  obtain ⟨gi, capi, e8, b8, l8⟩ := own_val kk.ids (by omega)
                  obtain ⟨gr, capr, e9, b9, l9⟩ := own_val kk.rows (by rw [hl2', ← HLT.out]; omega)
                  simp only [Value.slice.injEq] at e8 e9
                  obtain ⟨rfl, -, rfl⟩ := e8
                  obtain ⟨rfl, -, rfl⟩ := e9
                  have hgg : gi ≠ gr := fun e => blks_pair hot2.apart HP.out (g := gi) rfl (by rw [e]; rfl)
                  have hgl : gi < wo2.heap.size := HBK.out gi (by unfold blks; exact List.mem_filterMap.2 ⟨.slice (some ⟨gi, 0, none⟩) t.ids.length cp1, by simp only [List.mem_cons, List.mem_flatMap]; exact .inr ⟨_, List.mem_of_getElem? HP.out, by simp⟩, rfl⟩)
                  have hgl2 : gr < wo2.heap.size := HBK.out gr (by unfold blks; exact List.mem_filterMap.2 ⟨.slice (some ⟨gr, 0, none⟩) t.rows.length cp2, by simp only [List.mem_cons, List.mem_flatMap]; exact .inr ⟨_, List.mem_of_getElem? HP.out, by simp⟩, rfl⟩)
                  have hjr : j < t.rows.length := by rw [← HLT.out]; exact hltj
                  have ki : wr3.ownsRow (wq.heap.size + 1) 3 1 (.slice (some ⟨gi, 0, none⟩) t.ids.length cp1) t.ids.length (t2.ids.map (Value.int .i64)) := by have := kk.ids; rw [hl2] at this; exact this
                  have kw : wr3.ownsRow (wq.heap.size + 1) 23 8 (.slice (some ⟨gr, 0, none⟩) t.rows.length cp2) t.rows.length (t2.rows.flatMap rowL) := by have := kk.rows; rw [hl2'] at this; exact this
                  obtain ⟨u8, hu8⟩ : ∃ u, (t2.ids.map (Value.int .i64))[j]? = some u := ⟨_, List.getElem?_eq_getElem (by simp; omega)⟩
                  have hc8 : ∃ u, wr3.cell? ⟨gi, j, none⟩ = some u := ⟨u8, (ki.cellAt j (by omega)).trans hu8⟩
                  have hf8 : wr3.frozen? ⟨gi, j, none⟩ = false := ki.frozenAt j
                  have hfl : (t2.rows.flatMap rowL).length = t.rows.length * 8 := by rw [rowsL_length, hl2']
                  have hc10 : ∀ i, i < 8 → ∃ u, (wr3.setCell ⟨gi, j, none⟩ (.int .i64 (-1))).cell? ⟨gr, j * 8 + i, none⟩ = some u := fun i hi => by
                    rw [World.cell?_of_block (w := wr3) (Below.heap_setCell _ _ _ _ (by exact fun e => hgg e.symm))]
                    exact ⟨_, (kw.cellAt (j * 8 + i) (by omega)).trans (List.getElem?_eq_getElem (by omega))⟩
                  have hf10 : ∀ i, (wr3.setCell ⟨gi, j, none⟩ (.int .i64 (-1))).frozen? ⟨gr, i, none⟩ = false := fun i => by
                    rw [World.frozen?_of_block (w := wr3) (Below.heap_setCell _ _ _ _ (by exact fun e => hgg e.symm))]
                    exact kw.frozenAt i
                  have HC8 := Lib.hid hc8
                  have HF8 := Lib.hid hf8
                  have HC10 := Lib.hid hc10
                  have HF10 := Lib.hid hf10
                  have HOV := Lib.hid (tabs_over (w := wr3.drew) (j := j) (hot2.same (Nat.le_refl _) (fun _ _ _ => rfl)) HT2.out HP.out (by rw [hl2']; exact hjr))
                  clear hc8 hf8 hc10 hf10 kk ki kw hu8 hfl hot2 hl2 hl2'
                  go_upto_region 19 with fail
                  refine DG.wp_named (fun A hA => ?_)
                  show Code.wp Tryz.prog mem2C _ _ _
                  rw [mem2C_is]
                  refine wp_region_any (by kernel_rfl) ?_
                  rw [mem2Ops_size]
                  show wpAny _ _ _ _ _ _ _ wr3.drew
                  refine mem2_region (p11 := wo2.heap.size) (gi := gi) (gr := gr) (ni := t.ids.length) (nr := t.rows.length) (ci := cp1) (cr := cp2) (j := j) (tmk := t.mask) (W0 := wr3.drew) ⟨by rw [hA]; rfl, by rw [hA]; rfl, HBT2.out, by omega, hltj, hjr, by omega, by omega, HC8.out, HF8.out, HC10.out, HF10.out⟩ (by rw [hA]; rfl) (by rw [hA]) () (by unfold mem2Mem; simp) ?_
                  intro _ ll W9 hll hmm
                  unfold mem2Mem at hmm
                  rw [if_pos (hll 10 (by decide))] at hmm
                  rw [hA]
                  simp only [mem2Val, List.getD_cons_zero, List.getD_cons_succ]
                  simp only [DG.setQ, List.setIfInBounds_toArray, List.set_cons_zero, List.set_cons_succ]
                  clear hA A hll
                  have hov := HOV.out
                  have HO9 : OwnTabs W9 (wq.heap.size + 1) (.slice (some ⟨b, o, none⟩) D.things.tables.length cw) (ts2.set n { t2 with ids := t2.ids.set j (-1), rows := t2.rows.set j M.row0 }) hsw := by rw [hmm]; exact hov.1
                  have HF9 : ∀ b, b ≠ gi → b ≠ gr → W9.heap[b]? = wr3.heap[b]? := fun b h1 h2 => by rw [hmm]; exact hov.2.1 b h1 h2
                  have HZ9 : W9.heap.size = wr3.heap.size := by rw [hmm]; exact hov.2.2.1
                  have HS9 : W9.os = wr3.os ∧ W9.tape = wr3.tape ∧ W9.output = wr3.output := by rw [hmm]; exact hov.2.2.2
                  clear hmm
                  have HB9 : Below wq.heap.size wb W9 := ⟨HS9.1.trans HBL2.out.os, HS9.2.1.trans HBL2.out.tape, HS9.2.2.trans HBL2.out.output, by rw [HZ9]; exact HBL2.out.size, fun g hg => (HF9 g (by omega) (by omega)).trans (HBL2.out.block g hg)⟩
                  have HH9 := Lib.hid HO9
                  have HHF9 := Lib.hid HF9
                  have HHB9 := Lib.hid HB9
                  clear hov HO9 HF9 HZ9 HB9 HS9
                  go_wp2_with fail
                  go_roundg (t.ids.length - (j + 1))
                  case measure => rw [HGJ.out]; omega
                  case rel =>
                    refine ⟨j + 1, _, { t2 with ids := t2.ids.set j (-1), rows := t2.rows.set j M.row0 }, by omega, by go_num, rfl, ⟨?_, by simp [HL2.out], by simp [HL2'.out]⟩, ?_, HH9.out, ?_, HBK.out, HHB9.out⟩
                    · exact List.getElem?_set_self (List.getElem?_eq_some_iff.1 HT2.out).1
                    · intro u hu
                      rcases List.mem_or_eq_of_mem_set hu with h1 | h1
                      · exact HTS2.out u h1
                      · subst h1
                        have := HTS2.out t2 (List.mem_of_getElem? HT2.out)
                        simpa using this
                    · exact (HHF9.out _ (by omega) (by omega)).trans HBT2.out
                · obtain rfl : j = t.ids.length := by omega
                  clear hot2 hl2 hl2'
                  go_wp2_with fail
                  go_roundg (D.things.tables.length - (n + 1))
                  case measure => rw [HGN.out]; omega
                  case rel => exact ⟨n + 1, ts2, by omega, by go_num, rfl, HTS2.out, HO2.out, HBL2.out⟩
            · obtain rfl : n = D.things.tables.length := by omega
              have q9 : decide ((D.things.tables.length : Int) < (D.things.tables.length : Int)) = false := decide_eq_false (by omega)
              clear hlts hot
              have KF : Below wq.heap.size wq wo2 := HBB.out.mono (Nat.le_refl _) |>.trans HBL.out
              have HGF := Lib.hid (HGq.out.below KF)
              have HHF := Lib.hid (HHq.out.below KF)
              have HBXF := Lib.hid (HBXq.out.below KF lbq)
              have lbf := HBXF.out.lt
              have xbf := HBXF.out.cell 0
              simp at xbf
              have HWg := Lib.hid (fun U (hb : Below wo2.heap.size wo2 U) => gworld_calls (HGF.out.below hb) HGG1.out)
              have HWh := Lib.hid (fun U (hb : Below wo2.heap.size wo2 U) => gworld_calls (HHF.out.below hb) HGG1.out)
              rw [← HD0.out] at HWg HWh
              have HGD : Hid (M.GoodWd D) := Lib.hid (by rw [HD0.out]; exact HGG1.out.w)
              have HPOST := Lib.hid (fun W' (hb : Below wo2.heap.size wo2 W') => show Only (fun b => R b ∨ (Value.slice ai r.ids.length ci).ownBlock = some b ∨ (Value.slice am r.met.length cm).ownBlock = some b) W W' ∧ ∃ (R' : Nat → Prop) (a : Option Addr) (c : Nat) (sv : Value) (hs : List Value), GameAt W' R' h G1 a c sv hs ∧ (∀ b, R' b → (R b ∨ W.heap.size ≤ b) ∧ b < W'.heap.size) from by
                have s1 := HO1q.out.size
                have s2 := KF.size
                have s3 := hb.size
                refine ⟨(Only.of_below HK0.out).trans ((HO1.out.wide (fun b _ q => .inl q)).trans ((HO1q.out.wide (fun b _ q => .inr q)).trans ((Only.of_below KF).trans (Only.of_below hb)))), R1, a1, c1, sv1, hs1, HHF.out.below hb, fun b q => ?_⟩
                have q1 := HR1.out b q
                refine ⟨?_, by omega⟩
                rcases q1.1 with q2 | q2
                · exact .inl q2
                · exact .inr (by omega))
              have ng : ¬ g = h := fun e => HQR.out g HG.out.inQ (by rw [e]; exact HH.out.inQ)
              clear KF
              go_upto_region 22 with fail
              go_region_with (first | (go_at_call_of 13 g; go_loud (refine (HWg.out _ (show Below wo2.heap.size wo2 _ from (by repeat first | with_reducible assumption | with_reducible exact Below.refl _ _ | with_reducible apply Below.drew))).mono ?_; rintro e w5 ⟨a5, c5, hs5, rfl, ho5, hb5⟩; have K5 : Below wo2.heap.size wo2 w5 := (show Below wo2.heap.size wo2 _ from (by repeat first | with_reducible assumption | with_reducible exact Below.refl _ _ | with_reducible apply Below.drew)).trans (hb5.mono (by first | exact Nat.le_refl _ | omega | (simp; done) | (simp; omega))); have k5 := K5.size; have xb5 := (HBXF.out.below K5 lbf).cell 0; simp at xb5; have HO5 := Lib.hid (show StoreAt w5 0 (stV a5 c5 D.things) D.things from ho5.at_.mono (Nat.zero_le _)); clear ho5)) | (go_at_call_of 13 h; go_loud (refine (HWh.out _ (show Below wo2.heap.size wo2 _ from (by repeat first | with_reducible assumption | with_reducible exact Below.refl _ _ | with_reducible apply Below.drew))).mono ?_; rintro e w6 ⟨a6, c6, hs6, rfl, ho6, hb6⟩; have K6 : Below wo2.heap.size wo2 w6 := (show Below wo2.heap.size wo2 _ from (by repeat first | with_reducible assumption | with_reducible exact Below.refl _ _ | with_reducible apply Below.drew)).trans (hb6.mono (by first | exact Nat.le_refl _ | omega | (simp; done) | (simp; omega))); have k6 := K6.size; have xb6 := (HBXF.out.below K6 lbf).cell 0; simp at xb6; have HO6 := Lib.hid (show StoreAt w6 0 (stV a6 c6 D.things) D.things from ho6.at_.mono (Nat.zero_le _)); clear ho6)) | (go_at_call 26; go_loud (refine (same_calls (d := D) (by first | (with_reducible exact HO5.out.below hb6) | (with_reducible exact HO5.out)) (by first | (with_reducible exact HO6.out.below hb5) | (with_reducible exact HO6.out)) HGD.out).mono ?_; rintro e w7 ⟨rfl, hb7⟩; have K7 : Below wo2.heap.size wo2 w7 := (show Below wo2.heap.size wo2 _ from (by repeat first | with_reducible assumption | with_reducible exact Below.refl _ _ | with_reducible apply Below.drew)).trans (hb7.mono (by first | exact Nat.le_refl _ | omega | (simp; done) | (simp; omega))))))
              all_goals
                go_wp2_with fail
                go_ret
                exact ⟨rfl, HPOST.out _ K7⟩
end Go.Proofs.YtkpecagkpjabdacGreat
