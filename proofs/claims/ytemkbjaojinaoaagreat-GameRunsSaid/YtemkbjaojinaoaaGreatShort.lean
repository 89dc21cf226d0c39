/- Short names for steps that stand in many places. No condition. -/
import Derived.Laws.OwnMore
import Derived.Laws.Rows
import Derived.Deep.Draws
import Derived.Lib.Hide
namespace Go.Proofs.YtemkbjaojinaoaaGreat
open Go Go.RowKit
set_option linter.unusedVariables false
theorem bO {p : Prop} (h : p := by omega) : p := h
theorem kR {p : Prop} (h : p := by kernel_rfl) : p := h
theorem dC {p : Prop} (h : p := by decide) : p := h
theorem sO {p : Prop} (h : p := by simp;omega) : p := h
theorem sS {p : Prop} (h : p := by simp) : p := h
theorem rA {p : Prop} (h : p := by rw [hA];rfl) : p := h
theorem lO {p : Prop} (h : p := by first|exact Nat.le_refl _|omega|(simp;done)|(simp;omega)) : p := h
theorem rO {p : Prop} (h : p := by first|rfl|(simp;done)|omega) : p := h
theorem sW {p : Prop} (h : p := by simp [World.setCell];omega) : p := h
theorem bR0 {p : Prop} (h : p := by apply blk_to;(repeat first|with_reducible apply Blk.below (hb:=hb5) (hg:=sid9)|with_reducible apply Blk.put|with_reducible apply Blk.drew|with_reducible exact Blk.new_at (h:=(by first|rfl|(simp;done)|omega))|with_reducible apply Blk.alloc|with_reducible apply Blk.far (hp:=sid9));rfl) : p := h
theorem bR1 {p : Prop} (h : p := by apply blk_to;(repeat first|with_reducible apply Blk.below (hb:=hb6) (hg:=sid9)|with_reducible apply Blk.put|with_reducible apply Blk.drew|with_reducible exact Blk.new_at (h:=(by first|rfl|(simp;done)|omega))|with_reducible apply Blk.alloc|with_reducible apply Blk.far (hp:=sid9));rfl) : p := h
theorem bR2 {p : Prop} (h : p := by repeat first|apply Blk.new_at (h:=sid9)|with_reducible apply Blk.drewN|with_reducible apply Blk.drew|with_reducible apply Blk.alloc|with_reducible refine Blk.below ?_ hb5 sid9|with_reducible refine Blk.below ?_ hb4 sid9|with_reducible refine Blk.below ?_ hb3 sid9|with_reducible refine Blk.below ?_ hb2 sid9|with_reducible refine Blk.below ?_ hb1 sid9) : p := h
theorem bR3 {p : Prop} (h : p := by repeat first|with_reducible exact Below.refl _ _|with_reducible apply Below.drew|with_reducible apply Below.alloc (hB:=sid9)|with_reducible refine Below.trans ?_ (Below.mono (B':=W2.heap.size) hb6 sid9)|with_reducible refine Below.trans ?_ (Below.mono (B':=W2.heap.size) hb5 sid9)) : p := h
theorem bR4 {p : Prop} (h : p := by repeat first|with_reducible exact Below.refl _ _|with_reducible apply Below.drew|with_reducible apply Below.setCell (hp:=sid9)|with_reducible apply Below.alloc (hB:=sid9)) : p := h
theorem bR5 {p : Prop} (h : p := by repeat first|with_reducible exact Below.refl _ _|with_reducible apply Below.drew|with_reducible apply Below.setCell (hp:=sid9)|with_reducible apply Below.alloc (hB:=sid9)|with_reducible refine Below.trans ?_ (Below.mono (B':=W1.heap.size) hb5 sid9)) : p := h
theorem bR6 {p : Prop} (h : p := by repeat first|with_reducible exact Below.refl _ _|with_reducible apply Below.drew|with_reducible apply Below.setCell (hp:=sid9)|with_reducible apply Below.alloc (hB:=sid9)|with_reducible refine Below.trans ?_ (Below.mono (B':=w2.heap.size) hb4 sid9)|with_reducible refine Below.trans ?_ (Below.mono (B':=w2.heap.size) hb3 sid9)) : p := h
theorem bR7 {p : Prop} (h : p := by repeat first|with_reducible exact Below.refl _ _|with_reducible apply Below.drew|with_reducible apply Below.setCell (hp:=sid9)|with_reducible apply Below.alloc (hB:=sid9)|with_reducible refine Below.trans ?_ (Below.mono (B':=wo.heap.size) hb6 sid9)) : p := h
theorem hI {p : Prop} (h : p) : Hid p := Lib.hid h
theorem oN {w : World} {b : Nat} {e : TypeId} {k : Nat} : w.ownsRow b e k (.slice none 0 0) 0 [] := World.ownsRow_nil _ _ _ _
theorem bS (w : World) (a : Addr) (u : Value) (k : Nat) (h : k ≠ a.block) : (w.setCell a u).heap[k]? = w.heap[k]? := Below.heap_setCell w a u k h
theorem lR {n : Nat} : n ≤ n := Nat.le_refl _
theorem mA {α β : Type} {f : α → β} {l : List α} : l.toArray.map f = (l.map f).toArray := List.map_toArray
theorem mC {α β : Type} {f : α → β} {a : α} {l : List α} : (a :: l).map f = f a :: l.map f := List.map_cons
theorem mN {α β : Type} {f : α → β} : ([] : List α).map f = [] := List.map_nil
end Go.Proofs.YtemkbjaojinaoaaGreat
