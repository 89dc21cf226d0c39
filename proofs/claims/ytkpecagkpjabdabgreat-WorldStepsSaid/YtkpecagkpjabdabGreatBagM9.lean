/- Several small texts in one. No condition of its own: each part says its own. -/
import Derived.Test.YtkpecagkpjabdabGreatBagW
import Derived.Test.YtkpecagkpjabdabGreatBagP
import Derived.Test.YtkpecagkpjabdabGreatBagWo
import Derived.SizedLaws
import Derived.Test.YtkpecagkpjabdabGreatWorldStep
import Derived.Test.YtkpecagkpjabdabGreatStoreSpawn
import Derived.Test.YtkpecagkpjabdabGreatBagG
/- A world that came in: how it lies in memory. No condition. -/
namespace Go.Proofs.YtkpecagkpjabdabGreat
open Go.ChangeShapes Go.WideShapes Go.ChangeAt Go.RowKit Go.Deep
set_option linter.unusedVariables false
set_option linter.unusedSimpArgs false
set_option maxRecDepth 100000
/-- a world's value, as it lies in memory; its numbers are of 64 bits -/
def WorldAt (w : World) (v : Value) (d : M.Wd) : Prop := ∃ vt, v = wdV vt d ∧ StoreAt w 0 (.agg #[vt, .int .i64 d.things.next]) d.things ∧ StoreIn d.things ∧ I64 d.fall ∧ I64 d.wide ∧ I64 d.high
theorem fiveW {α : Type} {l : List α} (h : l.length = 5) : ∃ a b c d e, l = [a, b, c, d, e] := by
  match l, h with
  | [a, b, c, d, e], _ => exact ⟨a, b, c, d, e, rfl⟩
theorem fourW {α : Type} {l : List α} (h : l.length = 4) : ∃ a b c d, l = [a, b, c, d] := by
  match l, h with
  | [a, b, c, d], _ => exact ⟨a, b, c, d, rfl⟩
section
variable {H : Type} {enc : TypeId × Value → H} {w : World} {spare : Nat → Bool} {held : Bool}
theorem world_of_cells {cs : List Value} {n : Nat} {y : DataW H × List MemPlace} (h : DataW.trod enc Tryz.prog w 0 spare held n 41 cs = some y) :
    ∃ (d : M.Wd) (vt : Value), cs = [vt, .int .i64 d.things.next, .int .i64 d.fall, .int .i64 d.wide, .int .i64 d.high] ∧ TabsAt w 0 vt d.things.tables ∧ StoreIn d.things ∧ I64 d.fall ∧ I64 d.wide ∧ I64 d.high := by
  obtain ⟨xs, n, _, _, hlen, hxl, hg⟩ := DataW.trod_struct Tryz.underlying41 h
  have hc : Tryz.prog.cellsOf 41 = 5 := by kernel_rfl
  have c1 : Tryz.prog.cellsOf 3 = 1 := by kernel_rfl
  have c2 : Tryz.prog.cellsOf 39 = 2 := by kernel_rfl
  rw [hc] at hlen
  obtain ⟨a0, a1, a2, a3, a4, rfl⟩ := fiveW hlen
  obtain ⟨b0, b1, b2, b3, rfl⟩ := fourW (l := xs) hxl
  obtain ⟨s, vt, e, h1, k1⟩ := store_of_cells (cs := [a0, a1]) (by simpa [c2] using hg 0 _ rfl)
  obtain ⟨f, rfl, hf⟩ := cell_i64 Tryz.underlying3 (by simpa [c1] using hg 1 _ rfl)
  obtain ⟨wi, rfl, hw⟩ := cell_i64 Tryz.underlying3 (by simpa [c1] using hg 2 _ rfl)
  obtain ⟨hi, rfl, hh⟩ := cell_i64 Tryz.underlying3 (by simpa [c1] using hg 3 _ rfl)
  simp only [List.cons.injEq, and_true] at e
  obtain ⟨rfl, rfl⟩ := e
  exact ⟨⟨s, f, wi, hi⟩, a0, rfl, h1, k1, hf, hw, hh⟩
end
theorem open_world {H : Type} {enc : TypeId × Value → H} {w : World} {spare : Nat → Bool} {held : Bool} {r : Reach} {b0 : Nat} {v : Value} {d : DataW H} {p : List MemPlace} (hv : Value.okWide Tryz.prog w r b0 41 v)
    (h : DataW.Trod enc Tryz.prog w 0 spare held 41 v d p) : ∃ d, WorldAt w v d := by
  obtain ⟨cs, rfl, hsz⟩ := okWide_struct Tryz.underlying41 hv
  obtain ⟨l⟩ := cs
  obtain ⟨fuel, hf⟩ := h
  obtain ⟨d, vt, hr, ht, hin, h1, h2, h3⟩ := world_of_cells (cs := l) (by simpa [Value.cells] using hf)
  exact ⟨d, vt, by rw [hr], ⟨vt, rfl, ht⟩, hin, h1, h2, h3⟩
end Go.Proofs.YtkpecagkpjabdabGreat
/- A store that came in as an argument is no longer than memory allows: from the row's own bound on what an argument weighs. No condition. -/
namespace Go.Proofs.YtkpecagkpjabdabGreat
open Go.ChangeShapes Go.WideShapes Go.ChangeAt Go.RowKit Go.Deep
set_option linter.unusedVariables false
set_option linter.unusedSimpArgs false
set_option maxRecDepth 100000
/-- each weight of it is at most what an address reaches -/
def Light {H : Type} (t : TypeId) (d : DataW H) : Prop := ∀ n ∈ d.weights Tryz.prog t, n ≤ reachBytes
section
variable {H : Type} {enc : TypeId × Value → H} {w : World} {spare : Nat → Bool} {held : Bool} {fuel : Nat}
theorem mem_weightsAll {P : Program} {e : TypeId} : ∀ {ds : List (DataW H)} {d : DataW H}, d ∈ ds → ∀ n ∈ d.weights P e, n ∈ DataW.weightsAll P e ds
  | d0 :: ds, d, h, n, hn => by
    simp only [DataW.weightsAll, List.mem_append]
    rcases List.mem_cons.1 h with rfl | h
    · exact Or.inl hn
    · exact Or.inr (mem_weightsAll h n hn)
theorem light_slice {t e : TypeId} {es sp : List (DataW H)} (hu : Tryz.prog.underlying t = some (.slice e)) (h : Light t (DataW.slice es sp)) : es.length * Tryz.prog.bytesOf e ≤ reachBytes ∧ ∀ d ∈ es, Light e d := by
  constructor
  · have := h ((es.length + sp.length) * Tryz.prog.bytesOf e) (by simp [DataW.weights, hu])
    exact Nat.le_trans (Nat.mul_le_mul_right _ (by omega)) this
  · intro d hd n hn
    refine h n ?_
    simp only [DataW.weights, hu, List.mem_cons, List.mem_append]
    exact Or.inr (Or.inl (mem_weightsAll hd n hn))
theorem light_part {t : TypeId} {fs : Array Field} {ps : List (DataW H)} (hu : Tryz.prog.underlying t = some (.struct fs)) (h : Light t (DataW.agg ps)) {j : Nat} {f : Field} {d : DataW H} (hf : fs[j]? = some f) (hd : ps[j]? = some d) : Light f.type d := by
  intro n hn
  refine h n ?_
  simp only [DataW.weights, hu]
  exact DataW.weights_mem_each (t := f.type) (by rw [List.getElem?_map, Array.getElem?_toList, hf]; rfl) hd n hn
/-- a slice that is read from an argument is as long as its bytes allow -/
theorem light_len {t e : TypeId} {v : Value} {a : Option Addr} {n cap : Nat} {x : DataW H × List MemPlace} (hu : Tryz.prog.underlying t = some (.slice e)) (h : DataW.trod enc Tryz.prog w 0 spare held fuel t [v] = some x) (hv : v = .slice a n cap) (hw : Light t x.1) : n * Tryz.prog.bytesOf e ≤ reachBytes := by
  subst hv
  rcases open_slice hu h with ⟨he, _⟩ | ⟨a, len, cap, m, k, D, Pl, he, hb, hl, hm, hmm, hxe, hx⟩
  · simp only [List.cons.injEq, Value.slice.injEq, and_true] at he
    obtain ⟨rfl, rfl, rfl⟩ := he
    omega
  · simp only [List.cons.injEq, Value.slice.injEq, and_true] at he
    obtain ⟨rfl, rfl, rfl⟩ := he
    subst hxe
    have := (light_slice hu hw).1
    simpa using this
theorem addr_at (b o k : Nat) : (Addr.add ⟨b, o, none⟩ k : Addr) = ⟨b, o + k, none⟩ := by
  unfold Addr.add; split <;> simp_all
theorem sized_tabs {v : Value} {ts : List M.Table} {hs : List (Value × Value)} {x : DataW H × List MemPlace} (hT : TabsAtH w 0 v ts hs) (h : DataW.trod enc Tryz.prog w 0 spare held fuel 37 [v] = some x) (hw : Light 37 x.1) :
    ts.length * 56 ≤ 140737488351232 ∧ ∀ t ∈ ts, t.ids.length * 8 ≤ 140737488351232 ∧ t.rows.length * 64 ≤ 140737488351232 := by
  have b56 : Tryz.prog.bytesOf 74 = 56 := by kernel_rfl
  have b8 : Tryz.prog.bytesOf 3 = 8 := by kernel_rfl
  have b64 : Tryz.prog.bytesOf 27 = 64 := by kernel_rfl
  have c3 : Tryz.prog.cellsOf 74 = 3 := by kernel_rfl
  have c1 : Tryz.prog.cellsOf 3 = 1 := by kernel_rfl
  have c2 : Tryz.prog.cellsOf 33 = 1 := by kernel_rfl
  have c2r : Tryz.prog.cellsOf 72 = 1 := by kernel_rfl
  obtain ⟨a0, cap0, rfl⟩ := hT.val
  refine ⟨?_, fun t ht => ?_⟩
  · have := light_len Tryz.underlying37 h rfl hw
    rw [b56] at this
    exact this
  · obtain ⟨i, hi⟩ := List.getElem?_of_mem ht
    obtain ⟨b, o, cap, p, e0, _, _, q0, q1, q2, hta⟩ := hT.at hi
    rcases open_slice Tryz.underlying37 h with ⟨he, _⟩ | ⟨a, len, cap', m, k, D, Pl, he, hb, hl, hm, hmm, hxe, hx⟩
    · simp only [List.cons.injEq, Value.slice.injEq, and_true] at he
      have := (List.getElem?_eq_some_iff.1 hi).1
      omega
    · simp only [List.cons.injEq, Value.slice.injEq, and_true] at he
      obtain ⟨rfl, rfl, rfl⟩ := he
      simp only [Value.slice.injEq, Option.some.injEq] at e0
      obtain ⟨rfl, -, rfl⟩ := e0
      have hil := (List.getElem?_eq_some_iff.1 hi).1
      have hlm : ts.length ≤ m := by rw [hmm]; split <;> omega
      obtain ⟨cs', h1, h2⟩ := hx i (by omega)
      rw [c3] at h1
      obtain ⟨hl3, h3⟩ := cells_at h1
      obtain ⟨x0, x1, x2, rfl⟩ := three hl3
      have k1 := h3 1 (by omega)
      have k2 := h3 2 (by omega)
      rw [addr_at, addr_at] at k1 k2
      rw [q1] at k1
      rw [q2] at k2
      simp only [List.getElem?_cons_succ, List.getElem?_cons_zero, Option.some.injEq] at k1 k2
      subst hxe
      have hD : Light 74 (D i) := (light_slice Tryz.underlying37 hw).2 _ (List.mem_map.2 ⟨i, by simpa using hil, rfl⟩)
      obtain ⟨xs, n, _, he2, hlen, hxl, hg⟩ := DataW.trod_struct Tryz.underlying74 h2
      obtain ⟨y0, y1, y2, rfl⟩ := three (l := xs) hxl
      have hD2 : D i = .agg [y0.1, y1.1, y2.1] := by have := congrArg Prod.fst he2; simpa using this
      rw [hD2] at hD
      have g1 : DataW.trod enc Tryz.prog w 0 spare held n 33 [x1] = some y1 := by simpa [c2] using hg 1 _ rfl
      have g2 : DataW.trod enc Tryz.prog w 0 spare held n 72 [x2] = some y2 := by simpa [c2r] using hg 2 _ rfl
      obtain ⟨ai, ci, ei⟩ := hta.1.val
      obtain ⟨ar, cr, er⟩ := hta.2.val
      have z1 := light_len Tryz.underlying33 g1 (by rw [← k1, ei]) (light_part Tryz.underlying74 hD (j := 1) rfl rfl)
      have z2 := light_len Tryz.underlying72 g2 (by rw [← k2, er]) (light_part Tryz.underlying74 hD (j := 2) rfl rfl)
      rw [b8] at z1
      rw [b64] at z2
      exact ⟨z1, z2⟩
theorem sized_store {v : Value} {s : M.Store} {d : DataW H} {p : List MemPlace} (hv : StoreAt w 0 v s) (h : DataW.Trod enc Tryz.prog w 0 spare held 39 v d p) (hw : Light 39 d) : Sized s := by
  obtain ⟨vt, rfl, hs, hT⟩ := hv
  obtain ⟨fuel, hf⟩ := h
  have hf2 : DataW.trod enc Tryz.prog w 0 spare held fuel 39 [vt, .int .i64 s.next] = some (d, p) := by simpa [Value.cells] using hf
  obtain ⟨xs, n, _, he2, hlen, hxl, hg⟩ := DataW.trod_struct Tryz.underlying39 hf2
  obtain ⟨y0, y1, rfl⟩ := two (l := xs) hxl
  have hd : d = .agg [y0.1, y1.1] := by have := congrArg Prod.fst he2; simpa using this
  subst hd
  have c2 : Tryz.prog.cellsOf 37 = 1 := by kernel_rfl
  have g0 : DataW.trod enc Tryz.prog w 0 spare held n 37 [vt] = some y0 := by simpa [c2] using hg 0 _ rfl
  exact sized_tabs hT g0 (light_part Tryz.underlying39 hw (j := 0) rfl rfl)
/-- an argument among those that the row bounds is light -/
theorem light_arg {ts : List TypeId} {ds : List (DataW H)} (h : (DataW.weightsEach Tryz.prog ts ds).all (· ≤ reachBytes) = true) {j : Nat} {t : TypeId} {d : DataW H} (ht : ts[j]? = some t) (hd : ds[j]? = some d) : Light t d := by
  intro n hn
  have := List.all_eq_true.1 h _ (DataW.weights_mem_each ht hd n hn)
  simpa using this
end
end Go.Proofs.YtkpecagkpjabdabGreat
/- A world that came in as an argument is no longer than memory allows. No condition. -/
namespace Go.Proofs.YtkpecagkpjabdabGreat
open Go.ChangeShapes Go.WideShapes Go.ChangeAt Go.RowKit Go.Deep
set_option linter.unusedVariables false
set_option linter.unusedSimpArgs false
set_option maxRecDepth 100000
theorem sized_world {H : Type} {enc : TypeId × Value → H} {w : World} {spare : Nat → Bool} {held : Bool} {v : Value} {dd : M.Wd} {d : DataW H} {p : List MemPlace} (hv : WorldAt w v dd) (h : DataW.Trod enc Tryz.prog w 0 spare held 41 v d p) (hw : Light 41 d) : Sized dd.things := by
  obtain ⟨vt, rfl, hst, _⟩ := hv
  obtain ⟨fuel, hf⟩ := h
  have hf2 : DataW.trod enc Tryz.prog w 0 spare held fuel 41 [vt, .int .i64 dd.things.next, .int .i64 dd.fall, .int .i64 dd.wide, .int .i64 dd.high] = some (d, p) := by simpa [Value.cells] using hf
  obtain ⟨xs, n, _, he2, hlen, hxl, hg⟩ := DataW.trod_struct Tryz.underlying41 hf2
  obtain ⟨y0, y1, y2, y3, rfl⟩ := fourW (l := xs) hxl
  have hd : d = .agg [y0.1, y1.1, y2.1, y3.1] := by have := congrArg Prod.fst he2; simpa using this
  subst hd
  have c2 : Tryz.prog.cellsOf 39 = 2 := by kernel_rfl
  have g0 : DataW.trod enc Tryz.prog w 0 spare held n 39 [vt, .int .i64 dd.things.next] = some y0 := by simpa [c2] using hg 0 _ rfl
  exact sized_store hst ⟨n, by simpa [Value.cells] using g0⟩ (light_part Tryz.underlying41 hw (j := 0) rfl rfl)
end Go.Proofs.YtkpecagkpjabdabGreat
/- The contract of ninepinslaw's worlds: does package world answer at all? No condition. -/
namespace Go.Proofs.YtkpecagkpjabdabGreat
open Go.RowKit
set_option linter.unusedVariables false
set_option linter.unusedSimpArgs false
set_option maxRecDepth 100000
theorem lin14 (x : Int) (hx : M.goodW (M.wd14 x) = true) : StoreIn (M.st14 x) := good_in (M.goodW_iff.1 hx).things
set_option maxHeartbeats 4000000 in
set_option maxRecDepth 100000 in
theorem lworlds_calls (w : World) : Calls Tryz.prog 23 #[] w fun e w' => e = .returned (.bool true) ∧ Below w.heap.size w w' := by
  have HS := Lib.hid (fun W => spawn_calls (nil_store W 0) nil_in 11 (M.row14 500))
  rw [M.spawn14] at HS
  have HI := Lib.hid (lin14 500 (by decide))
  go_enter Tryz.func23, Tryz.ntmps23
  go_wp2_with (first | (go_at_call 40; go_loud (refine (HS.out _).mono ?_; rintro e w1 ⟨v1, rfl, ⟨hs1, hn1⟩, hb1⟩; obtain ⟨a1, c1, rfl⟩ := hs1.form; have HS1 := Lib.hid hs1; have K1 : Below w.heap.size w w1 := (show Below w.heap.size w _ from bel9).trans (hb1.mono sid9); have kz1 := K1.size; clear hs1 hn1)) | (go_at_call 20; go_loud (refine (step_calls2 (d := M.wd14 500) (Rob.made HS1.out (show Below w1.heap.size w1 _ from bel9)) HI.out M.step14).mono ?_; rintro e w2 ⟨a2, c2, v2, rfl, hr2, ho2, hb2⟩; have HR2 := Lib.hid hr2; have K2 : Below w.heap.size w w2 := (show Below w.heap.size w _ from bel9).trans (hb2.mono sid9); have kz2 := K2.size; clear hr2 ho2)) | (go_at_call 13; go_loud (refine (get_calls (HR2.out.at_.below (show Below w2.heap.size w2 _ from bel9)) 0).mono ?_; rw [show M.get (M.wd14 507).things 0 = (11, M.row14 507, true) from M.get14]; rintro e w3 ⟨rfl, hb3⟩; have K3 : Below w.heap.size w w3 := (show Below w.heap.size w _ from bel9).trans (hb3.mono sid9); have kz3 := K3.size)))
  go_ret
  exact ⟨rfl, bel9⟩
end Go.Proofs.YtkpecagkpjabdabGreat
