/- Replies that are kept in a list of the call's own, while the game goes on. No condition. -/
import Derived.Test.YtkpecagkpjabdabGreatGameTwo
import Derived.Test.YtkpecagkpjabdabGreatGameReply
import Derived.Maps.AppendAt
namespace Go.Proofs.YtkpecagkpjabdabGreat
open Go.RowKit
set_option linter.unusedVariables false
set_option linter.unusedSimpArgs false
set_option maxRecDepth 100000
def repL (p : M.Reply × (Value × Value)) : List Value := [.int .i64 p.1.code, .int .i64 p.1.n, p.2.1, p.2.2]
def repsL (rs : List M.Reply) (hr : List (Value × Value)) : List Value := (rs.zip hr).flatMap repL
theorem repsL_len (rs : List M.Reply) (hr : List (Value × Value)) (h : hr.length = rs.length) : (repsL rs hr).length = rs.length * 4 := by
  unfold repsL
  rw [flat_len repL 4 (fun _ => rfl), List.length_zip, h, Nat.min_self]
theorem repsL_snoc (rs : List M.Reply) (hr : List (Value × Value)) (h : hr.length = rs.length) (r : M.Reply) (p : Value × Value) : repsL (rs ++ [r]) (hr ++ [p]) = repsL rs hr ++ [.int .i64 r.code, .int .i64 r.n, p.1, p.2] := by
  unfold repsL
  rw [List.zip_append h.symm, List.flatMap_append]
  rfl
theorem repsL_at {rs : List M.Reply} {hr : List (Value × Value)} {i : Nat} {r : M.Reply} {p : Value × Value} (h1 : rs[i]? = some r) (h2 : hr[i]? = some p) :
    (repsL rs hr)[i * 4]? = some (.int .i64 r.code) ∧ (repsL rs hr)[i * 4 + 1]? = some (.int .i64 r.n) ∧ (repsL rs hr)[i * 4 + 2]? = some p.1 ∧ (repsL rs hr)[i * 4 + 3]? = some p.2 := by
  have hz : (rs.zip hr)[i]? = some (r, p) := List.getElem?_zip_eq_some.2 ⟨h1, h2⟩
  have k := fun j hj => flat_at repL 4 (fun _ => rfl) (rs.zip hr) i j hz hj
  exact ⟨k 0 (by omega), k 1 (by omega), k 2 (by omega), k 3 (by omega)⟩
/-- replies in a list of one's own, none of it in the game's blocks Q -/
structure OwnReps (w : World) (Q : Nat → Prop) (base : Nat) (vo : Value) (rs : List M.Reply) (hr : List (Value × Value)) : Prop where
  len : hr.length = rs.length
  row : w.ownsRow base 36 4 vo rs.length (repsL rs hr)
  each : ∀ (i : Nat) (r : M.Reply) (p : Value × Value), rs[i]? = some r → hr[i]? = some p → w.ownsRow base 3 1 p.1 r.ids.length (r.ids.map (Value.int .i64)) ∧ w.ownsRow base 77 2 p.2 r.met.length (r.met.flatMap pairL)
  off : ∀ b, Q b → vo.ownBlock ≠ some b
  offe : ∀ (i : Nat) (p : Value × Value), hr[i]? = some p → ∀ b, Q b ∨ vo.ownBlock = some b → p.1.ownBlock ≠ some b ∧ p.2.ownBlock ≠ some b
section
variable {w W : World} {Q R : Nat → Prop} {base : Nat} {vo vo' : Value} {rs : List M.Reply} {hr : List (Value × Value)}
theorem OwnReps.nil (w : World) (Q : Nat → Prop) (base : Nat) : OwnReps w Q base (.slice none 0 0) [] [] :=
  ⟨rfl, World.ownsRow_nil _ _ _ _, (fun i r p h _ => by simp at h), (fun b _ e => by cases e), fun i p h => by simp at h⟩
theorem OwnReps.old (h : OwnReps w Q base vo rs hr) {i : Nat} {p : Value × Value} (hp : hr[i]? = some p) : (∀ b, p.1.ownBlock = some b → b < w.heap.size) ∧ (∀ b, p.2.ownBlock = some b → b < w.heap.size) := by
  have hlt := (List.getElem?_eq_some_iff.1 hp).1
  have hl := h.len
  obtain ⟨k1, k2⟩ := h.each i rs[i] p (List.getElem?_eq_getElem (by omega)) hp
  exact ⟨fun b e => (k1.lt b e).2, fun b e => (k2.lt b e).2⟩
/-- the game goes on: its blocks, and what is new -/
theorem OwnReps.only (h : OwnReps w Q base vo rs hr) (ho : Only Q w W) (hR : ∀ b, R b → Q b ∨ w.heap.size ≤ b) : OwnReps W R base vo rs hr := by
  refine ⟨h.len, own_only h.row ho h.off, fun i r p h1 h2 => ?_, fun b q e => ?_, fun i p hp b q => ?_⟩
  · obtain ⟨k1, k2⟩ := h.each i r p h1 h2
    exact ⟨own_only k1 ho (fun b q => (h.offe i p h2 b (.inl q)).1), own_only k2 ho (fun b q => (h.offe i p h2 b (.inl q)).2)⟩
  · rcases hR b q with k | k
    · exact h.off b k e
    · have := (h.row.lt b e).2; omega
  · rcases q with q | q
    · rcases hR b q with k | k
      · exact h.offe i p hp b (.inl k)
      · obtain ⟨o1, o2⟩ := h.old hp
        exact ⟨fun e => by have := o1 b e; omega, fun e => by have := o2 b e; omega⟩
    · exact h.offe i p hp b (.inr q)
theorem OwnReps.below (h : OwnReps w Q base vo rs hr) (hb : Below w.heap.size w W) : OwnReps W Q base vo rs hr :=
  ⟨h.len, own_below h.row hb, fun i r p h1 h2 => ⟨own_below (h.each i r p h1 h2).1 hb, own_below (h.each i r p h1 h2).2 hb⟩, h.off, h.offe⟩
theorem OwnReps.less (h : OwnReps w Q base vo rs hr) (hq : ∀ b, R b → Q b) : OwnReps w R base vo rs hr :=
  ⟨h.len, h.row, h.each, fun b q => h.off b (hq b q), fun i p hp b q => h.offe i p hp b (q.imp (hq b) id)⟩
/-- a reply more -/
theorem OwnReps.snoc {r : M.Reply} {p : Value × Value} (h : OwnReps w Q base vo rs hr) (hrow : W.ownsRow base 36 4 vo' (rs.length + 1) (repsL rs hr ++ [.int .i64 r.code, .int .i64 r.n, p.1, p.2]))
    (hsame : ∀ g, g < w.heap.size → vo.ownBlock ≠ some g → W.heap[g]? = w.heap[g]?) (k1 : w.ownsRow base 3 1 p.1 r.ids.length (r.ids.map (Value.int .i64))) (k2 : w.ownsRow base 77 2 p.2 r.met.length (r.met.flatMap pairL))
    (q1 : ∀ b, Q b ∨ vo.ownBlock = some b → p.1.ownBlock ≠ some b ∧ p.2.ownBlock ≠ some b) (hQ : ∀ b, Q b → b < w.heap.size) (hat : vo'.ownBlock = vo.ownBlock ∨ ∃ n, vo'.ownBlock = some n ∧ w.heap.size ≤ n) :
    OwnReps W Q base vo' (rs ++ [r]) (hr ++ [p]) := by
  have hl := h.len
  refine ⟨by simp [hl], ?_, ?_, ?_, ?_⟩
  · rw [List.length_append, List.length_singleton, repsL_snoc rs hr hl]
    exact hrow
  · intro i r' p' h1 h2
    rcases Nat.lt_or_ge i rs.length with hi | hi
    · rw [List.getElem?_append_left hi] at h1
      rw [List.getElem?_append_left (by omega)] at h2
      obtain ⟨k1, k2⟩ := h.each i r' p' h1 h2
      exact ⟨own_same k1 (fun g e => hsame g (k1.lt g e).2 (fun e2 => (h.offe i p' h2 g (.inr e2)).1 e)), own_same k2 (fun g e => hsame g (k2.lt g e).2 (fun e2 => (h.offe i p' h2 g (.inr e2)).2 e))⟩
    · rw [List.getElem?_append_right hi] at h1
      rw [List.getElem?_append_right (by omega)] at h2
      have hlt := (List.getElem?_eq_some_iff.1 h1).1
      simp only [List.length_singleton] at hlt
      rw [show i - rs.length = 0 by omega] at h1
      rw [show i - hr.length = 0 by omega] at h2
      simp only [List.getElem?_cons_zero, Option.some.injEq] at h1 h2
      subst h1; subst h2
      exact ⟨own_same k1 (fun g e => hsame g (k1.lt g e).2 (fun e2 => (q1 g (.inr e2)).1 e)), own_same k2 (fun g e => hsame g (k2.lt g e).2 (fun e2 => (q1 g (.inr e2)).2 e))⟩
  · intro b q e
    rcases hat with k | ⟨n, k, hn⟩
    · exact h.off b q (k ▸ e)
    · rw [k] at e
      simp only [Option.some.injEq] at e
      have := hQ b q
      omega
  · have hnew : ∀ (p' : Value × Value), (∀ b, Q b ∨ vo.ownBlock = some b → p'.1.ownBlock ≠ some b ∧ p'.2.ownBlock ≠ some b) → (∀ b, p'.1.ownBlock = some b → b < w.heap.size) → (∀ b, p'.2.ownBlock = some b → b < w.heap.size) → ∀ b, Q b ∨ vo'.ownBlock = some b → p'.1.ownBlock ≠ some b ∧ p'.2.ownBlock ≠ some b := by
      intro p' ha o1 o2 b q
      rcases q with q | q
      · exact ha b (.inl q)
      · rcases hat with k | ⟨n, k, hn⟩
        · exact ha b (.inr (k ▸ q))
        · rw [k] at q
          simp only [Option.some.injEq] at q
          exact ⟨fun e => by have := o1 b e; omega, fun e => by have := o2 b e; omega⟩
    intro i p' hp
    rcases Nat.lt_or_ge i hr.length with hi | hi
    · rw [List.getElem?_append_left hi] at hp
      exact hnew p' (h.offe i p' hp) (h.old hp).1 (h.old hp).2
    · rw [List.getElem?_append_right hi] at hp
      have hlt := (List.getElem?_eq_some_iff.1 hp).1
      simp only [List.length_singleton] at hlt
      rw [show i - hr.length = 0 by omega] at hp
      simp only [List.getElem?_cons_zero, Option.some.injEq] at hp
      subst hp
      exact hnew p q1 (fun b e => (k1.lt b e).2) (fun b e => (k2.lt b e).2)
/-- the reply i: where it lies, its cells, and that its lists lie there -/
theorem OwnReps.at4 (h : OwnReps w Q base vo rs hr) {i : Nat} {r : M.Reply} (hi : rs[i]? = some r) :
    ∃ b cap ai ci am cm, vo = .slice (some ⟨b, 0, none⟩) rs.length cap ∧ (w.cell? ⟨b, i * 4, none⟩ = some (.int .i64 r.code) ∧ w.cell? ⟨b, i * 4 + 1, none⟩ = some (.int .i64 r.n) ∧ w.cell? ⟨b, i * 4 + 2, none⟩ = some (.slice ai r.ids.length ci) ∧ w.cell? ⟨b, i * 4 + 3, none⟩ = some (.slice am r.met.length cm)) ∧
      IntsAt w 0 (.slice ai r.ids.length ci) r.ids ∧ PairsAt w 0 (.slice am r.met.length cm) r.met := by
  have hlt := (List.getElem?_eq_some_iff.1 hi).1
  have hl := h.len
  obtain ⟨p, hp⟩ : ∃ p, hr[i]? = some p := ⟨_, List.getElem?_eq_getElem (by omega)⟩
  obtain ⟨k1, k2⟩ := h.each i r p hi hp
  obtain ⟨ai, ci, e1⟩ := own_form k1
  obtain ⟨am, cm, e2⟩ := own_form k2
  obtain ⟨g, cap, e0, _, _⟩ := own_val h.row (by omega)
  obtain ⟨c0, c1, c2, c3⟩ := repsL_at hi hp
  obtain ⟨p1, p2⟩ := p
  simp only at e1 e2 k1 k2 c2 c3
  subst e1; subst e2
  have hrow := h.row
  rw [e0] at hrow
  exact ⟨g, cap, ai, ci, am, cm, e0, ⟨(hrow.cellAt (i * 4) (by omega)).trans c0, (hrow.cellAt (i * 4 + 1) (by omega)).trans c1, (hrow.cellAt (i * 4 + 2) (by omega)).trans c2, (hrow.cellAt (i * 4 + 3) (by omega)).trans c3⟩, Lies.mono (Lies.of_owns k1) (Nat.zero_le _), Lies.mono (Lies.of_owns k2) (Nat.zero_le _)⟩
end
/-- one round: an act is done, its reply comes to the others -/
theorem reps_round {w2 w3 w9 : World} {o : Obj} {Q Q3 : Nat → Prop} {g : Nat} {G' : M.Game} {a3 : Option Addr} {c3 : Nat} {sv3 : Value} {hs3 : List Value} {base k : Nat} {rs : List M.Reply} {r : M.Reply} {hr : List (Value × Value)} {oa a9 ai am : Option Addr} {oc c9 ci cm : Nat}
    (HG3 : GameAt w3 Q3 g G' a3 c3 sv3 hs3) (HQ3 : ∀ b, Q3 b → (Q b ∨ w2.heap.size ≤ b) ∧ b < w3.heap.size ∧ (Value.slice ai r.ids.length ci).ownBlock ≠ some b ∧ (Value.slice am r.met.length cm).ownBlock ≠ some b) (HO3 : Only Q w2 w3)
    (HI3 : w3.ownsRow w2.heap.size 3 1 (.slice ai r.ids.length ci) r.ids.length (r.ids.map (Value.int .i64))) (HM3 : w3.ownsRow w2.heap.size 77 2 (.slice am r.met.length cm) r.met.length (r.met.flatMap pairL))
    (HR2 : OwnReps w2 Q base (.slice oa k oc) rs hr) (hlen : rs.length = k) (hb : base ≤ w2.heap.size) (HO9 : w9.ownsRow base 36 4 (.slice a9 (k + 1) c9) (k + 1) (repsL rs hr ++ [.int .i64 r.code, .int .i64 r.n, .slice ai r.ids.length ci, .slice am r.met.length cm]))
    (HG9 : (w3.alloc o).grownBy w9 (Value.slice oa k oc).ownBlock) (HA9 : (Value.slice a9 (k + 1) c9).ownBlock = (Value.slice oa k oc).ownBlock ∨ (Value.slice a9 (k + 1) c9).ownBlock = some (w3.alloc o).heap.size) :
    GameAt w9 Q3 g G' a3 c3 sv3 hs3 ∧ OwnReps w9 Q3 base (.slice a9 (k + 1) c9) (rs ++ [r]) (hr ++ [(.slice ai r.ids.length ci, .slice am r.met.length cm)]) ∧ w3.heap.size ≤ w9.heap.size ∧ (∀ {B : Nat} {w : World}, Below B w w3 → B ≤ w3.heap.size → B ≤ base → Below B w w9) := by
  have HR3 := HR2.only HO3 (R := Q3) (fun b q => (HQ3 b q).1)
  have hz3 := HO3.size
  have kz9 := HG9.size
  rw [World.size_alloc] at kz9
  have same9 : ∀ b, b < w3.heap.size → (Value.slice oa k oc).ownBlock ≠ some b → w9.heap[b]? = w3.heap[b]? := fun b h1 h2 => (HG9.block b (by rw [World.size_alloc]; omega) (fun e => h2 e.symm)).trans (Below.heap_alloc _ _ b h1)
  refine ⟨HG3.keep (by omega) (fun b h1 q => same9 b h1 (HR3.off b q)), ?_, by omega, fun hB h1 h2 => (hB.alloc h1 _).grown HG9 (by rw [World.size_alloc]; omega) (fun k hk => by have := (HR2.row.lt k hk).1; omega)⟩
  refine HR3.snoc ?_ (fun b h1 h2 => same9 b h1 h2) (own_lower HI3 hb) (own_lower HM3 hb) ?_ (fun b q => (HQ3 b q).2.1) ?_
  · rw [hlen]
    exact HO9
  · intro b q
    rcases q with q | q
    · exact (HQ3 b q).2.2
    · have h1 := (HR2.row.lt b q).2
      exact ⟨fun e => by have := (HI3.lt b e).1; omega, fun e => by have := (HM3.lt b e).1; omega⟩
  · rcases HA9 with q | q
    · exact .inl q
    · exact .inr ⟨_, q, by rw [World.size_alloc]; omega⟩
theorem infoReply : (Tryz.prog.info? 36).map (fun i => (i.zero, i.size, i.bytes)) = some (some (.agg #[.int .i64 0, .int .i64 0, .slice none 0 0, .slice none 0 0]), 4, 64) := by kernel_rfl
end Go.Proofs.YtkpecagkpjabdabGreat
