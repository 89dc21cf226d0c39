/- A store that came in as an argument is no longer than memory allows: from the row's own bound on what an argument weighs. No condition. -/
import Derived.Test.YtkpecagkpjabdaaOpenStore
import Derived.SizedLaws
namespace Go.Proofs.Ytkpecagkpjabdaa
open Go.ChangeShapes Go.WideShapes Go.ChangeAt Go.RowKit Go.Deep
set_option linter.unusedVariables false
set_option linter.unusedSimpArgs false
set_option maxRecDepth 100000
/-- each weight of it is at most what an address reaches -/
def Light {H : Type} (t : TypeId) (d : DataW H) : Prop := ∀ n ∈ d.weights Try.prog t, n ≤ reachBytes
section
variable {H : Type} {enc : TypeId × Value → H} {w : World} {spare : Nat → Bool} {held : Bool} {fuel : Nat}
theorem mem_weightsAll {P : Program} {e : TypeId} : ∀ {ds : List (DataW H)} {d : DataW H}, d ∈ ds → ∀ n ∈ d.weights P e, n ∈ DataW.weightsAll P e ds
  | d0 :: ds, d, h, n, hn => by
    simp only [DataW.weightsAll, List.mem_append]
    rcases List.mem_cons.1 h with rfl | h
    · exact Or.inl hn
    · exact Or.inr (mem_weightsAll h n hn)
theorem light_slice {t e : TypeId} {es sp : List (DataW H)} (hu : Try.prog.underlying t = some (.slice e)) (h : Light t (DataW.slice es sp)) : es.length * Try.prog.bytesOf e ≤ reachBytes ∧ ∀ d ∈ es, Light e d := by
  constructor
  · have := h ((es.length + sp.length) * Try.prog.bytesOf e) (by simp [DataW.weights, hu])
    exact Nat.le_trans (Nat.mul_le_mul_right _ (by omega)) this
  · intro d hd n hn
    refine h n ?_
    simp only [DataW.weights, hu, List.mem_cons, List.mem_append]
    exact Or.inr (Or.inl (mem_weightsAll hd n hn))
theorem light_part {t : TypeId} {fs : Array Field} {ps : List (DataW H)} (hu : Try.prog.underlying t = some (.struct fs)) (h : Light t (DataW.agg ps)) {j : Nat} {f : Field} {d : DataW H} (hf : fs[j]? = some f) (hd : ps[j]? = some d) : Light f.type d := by
  intro n hn
  refine h n ?_
  simp only [DataW.weights, hu]
  exact DataW.weights_mem_each (t := f.type) (by rw [List.getElem?_map, Array.getElem?_toList, hf]; rfl) hd n hn
/-- a slice that is read from an argument is as long as its bytes allow -/
theorem light_len {t e : TypeId} {v : Value} {a : Option Addr} {n cap : Nat} {x : DataW H × List MemPlace} (hu : Try.prog.underlying t = some (.slice e)) (h : DataW.trod enc Try.prog w 0 spare held fuel t [v] = some x) (hv : v = .slice a n cap) (hw : Light t x.1) : n * Try.prog.bytesOf e ≤ reachBytes := by
  subst hv
  rcases open_slice hu h with ⟨he, _⟩ | ⟨a, len, cap, m, k, D, Pl, he, hb, hl, hm, hmm, hxe, hx⟩
  · simp only [List.cons.injEq, Value.slice.injEq, and_true] at he
    obtain ⟨rfl, rfl, rfl⟩ := he
    omega
  · simp only [List.cons.injEq, Value.slice.injEq, and_true] at he
    obtain ⟨rfl, rfl, rfl⟩ := he
    subst hxe
    have := (light_slice hu hw).1
    simpa using this
theorem addr_at (b o k : Nat) : (Addr.add ⟨b, o, none⟩ k : Addr) = ⟨b, o + k, none⟩ := by
  unfold Addr.add; split <;> simp_all
theorem sized_tabs {v : Value} {ts : List M.Table} {hs : List (Value × Value)} {x : DataW H × List MemPlace} (hT : TabsAtH w 0 v ts hs) (h : DataW.trod enc Try.prog w 0 spare held fuel 38 [v] = some x) (hw : Light 38 x.1) :
    ts.length * 56 ≤ 140737488351232 ∧ ∀ t ∈ ts, t.ids.length * 8 ≤ 140737488351232 ∧ t.rows.length * 64 ≤ 140737488351232 := by
  have b56 : Try.prog.bytesOf 82 = 56 := by kernel_rfl
  have b8 : Try.prog.bytesOf 3 = 8 := by kernel_rfl
  have b64 : Try.prog.bytesOf 27 = 64 := by kernel_rfl
  have c3 : Try.prog.cellsOf 82 = 3 := by kernel_rfl
  have c1 : Try.prog.cellsOf 3 = 1 := by kernel_rfl
  have c2 : Try.prog.cellsOf 79 = 1 := by kernel_rfl
  have c2r : Try.prog.cellsOf 80 = 1 := by kernel_rfl
  obtain ⟨a0, cap0, rfl⟩ := hT.val
  refine ⟨?_, fun t ht => ?_⟩
  · have := light_len Try.underlying38 h rfl hw
    rw [b56] at this
    exact this
  · obtain ⟨i, hi⟩ := List.getElem?_of_mem ht
    obtain ⟨b, o, cap, p, e0, _, _, q0, q1, q2, hta⟩ := hT.at hi
    rcases open_slice Try.underlying38 h with ⟨he, _⟩ | ⟨a, len, cap', m, k, D, Pl, he, hb, hl, hm, hmm, hxe, hx⟩
    · simp only [List.cons.injEq, Value.slice.injEq, and_true] at he
      have := (List.getElem?_eq_some_iff.1 hi).1
      omega
    · simp only [List.cons.injEq, Value.slice.injEq, and_true] at he
      obtain ⟨rfl, rfl, rfl⟩ := he
      simp only [Value.slice.injEq, Option.some.injEq] at e0
      obtain ⟨rfl, -, rfl⟩ := e0
      have hil := (List.getElem?_eq_some_iff.1 hi).1
      have hlm : ts.length ≤ m := by rw [hmm]; split <;> omega
      obtain ⟨cs', h1, h2⟩ := hx i (by omega)
      rw [c3] at h1
      obtain ⟨hl3, h3⟩ := cells_at h1
      obtain ⟨x0, x1, x2, rfl⟩ := three hl3
      have k1 := h3 1 (by omega)
      have k2 := h3 2 (by omega)
      rw [addr_at, addr_at] at k1 k2
      rw [q1] at k1
      rw [q2] at k2
      simp only [List.getElem?_cons_succ, List.getElem?_cons_zero, Option.some.injEq] at k1 k2
      subst hxe
      have hD : Light 82 (D i) := (light_slice Try.underlying38 hw).2 _ (List.mem_map.2 ⟨i, by simpa using hil, rfl⟩)
      obtain ⟨xs, n, _, he2, hlen, hxl, hg⟩ := DataW.trod_struct Try.underlying82 h2
      obtain ⟨y0, y1, y2, rfl⟩ := three (l := xs) hxl
      have hD2 : D i = .agg [y0.1, y1.1, y2.1] := by have := congrArg Prod.fst he2; simpa using this
      rw [hD2] at hD
      have g1 : DataW.trod enc Try.prog w 0 spare held n 79 [x1] = some y1 := by simpa [c2] using hg 1 _ rfl
      have g2 : DataW.trod enc Try.prog w 0 spare held n 80 [x2] = some y2 := by simpa [c2r] using hg 2 _ rfl
      obtain ⟨ai, ci, ei⟩ := hta.1.val
      obtain ⟨ar, cr, er⟩ := hta.2.val
      have z1 := light_len Try.underlying79 g1 (by rw [← k1, ei]) (light_part Try.underlying82 hD (j := 1) rfl rfl)
      have z2 := light_len Try.underlying80 g2 (by rw [← k2, er]) (light_part Try.underlying82 hD (j := 2) rfl rfl)
      rw [b8] at z1
      rw [b64] at z2
      exact ⟨z1, z2⟩
theorem sized_store {v : Value} {s : M.Store} {d : DataW H} {p : List MemPlace} (hv : StoreAt w 0 v s) (h : DataW.Trod enc Try.prog w 0 spare held 40 v d p) (hw : Light 40 d) : Sized s := by
  obtain ⟨vt, rfl, hs, hT⟩ := hv
  obtain ⟨fuel, hf⟩ := h
  have hf2 : DataW.trod enc Try.prog w 0 spare held fuel 40 [vt, .int .i64 s.next] = some (d, p) := by simpa [Value.cells] using hf
  obtain ⟨xs, n, _, he2, hlen, hxl, hg⟩ := DataW.trod_struct Try.underlying40 hf2
  obtain ⟨y0, y1, rfl⟩ := two (l := xs) hxl
  have hd : d = .agg [y0.1, y1.1] := by have := congrArg Prod.fst he2; simpa using this
  subst hd
  have c2 : Try.prog.cellsOf 38 = 1 := by kernel_rfl
  have g0 : DataW.trod enc Try.prog w 0 spare held n 38 [vt] = some y0 := by simpa [c2] using hg 0 _ rfl
  exact sized_tabs hT g0 (light_part Try.underlying40 hw (j := 0) rfl rfl)
/-- an argument among those that the row bounds is light -/
theorem light_arg {ts : List TypeId} {ds : List (DataW H)} (h : (DataW.weightsEach Try.prog ts ds).all (· ≤ reachBytes) = true) {j : Nat} {t : TypeId} {d : DataW H} (ht : ts[j]? = some t) (hd : ds[j]? = some d) : Light t d := by
  intro n hn
  have := List.all_eq_true.1 h _ (DataW.weights_mem_each ht hd n hn)
  simpa using this
end
end Go.Proofs.Ytkpecagkpjabdaa
