/- Several small texts in one. No condition of its own: each part says its own. -/
import Derived.Test.YtkpecagkpjabdabRefThings
import Derived.Test.YtkpecagkpjabdabRefSweep2
import Derived.Test.YtkpecagkpjabdabBagP
/- The contracts of the document's sorted and Having. Condition: the things lie in memory, they are at most 1048576. -/
namespace Go.Proofs.Ytkpecagkpjabdab
open Go.RowKit
set_option linter.unusedVariables false
set_option linter.unusedSimpArgs false
set_option maxRecDepth 100000
set_option maxHeartbeats 8000000 in
set_option maxRecDepth 100000 in
theorem sorted_calls {w : World} {b c : Nat} {f : Int → Option M.Th} (h : MapA w b f c) (hc : c ≤ 1048576) :
    Calls Try.prog 60 #[.map (some b)] w fun e w' => ∃ (v' : Value) (zs : List Int), e = .returned v' ∧ w'.ownsRow w.heap.size 3 1 v' zs.length (zs.map (Value.int .i64)) ∧ zs.Pairwise (fun a b => leI a b = true) ∧ zs.Nodup ∧ (∀ z, z ∈ zs ↔ (f z).isSome = true) ∧ (∀ z ∈ zs, I64 z) ∧ zs.length ≤ c ∧ Below w.heap.size w w' := by
  have HM := Lib.hid h
  have lb := h.lt
  obtain ⟨i0, hi, hz0, hz1, hz2⟩ := info_parts infoInt
  have HI := Lib.hid (And.intro hi (And.intro hz0 (And.intro hz1 hz2)))
  clear h hi hz0 hz1 hz2
  go_enter Try.func60, Try.ntmps60
  go_wp2_with (first | (at_range; refine wpList_th_range _ rfl _ 58 rfl 3 65 Try.underlying3 Try.underlying58 b f c rfl HM.out ?_; intro w0 hrg0 hg0 hs0; have HR0 := Lib.hid hrg0; have HG0 := Lib.hid hg0; clear hrg0 hg0))
  go_frame
  have HB0 : Hid (Below w.heap.size w w0) := Lib.hid ((Below.refl _ w).grown HG0.out (by simp) (by simp))
  go_loopg [3] c (fun gh o wr => ∃ (left : Int → Bool) (oa : Option Addr) (oc : Nat) (zs : List Int), RngA wr b w.heap.size f c left gh ∧ o = .slice oa zs.length oc ∧ zs.Pairwise (fun a b => leI a b = true) ∧ zs.Nodup ∧ (∀ z, z ∈ zs ↔ ((f z).isSome = true ∧ left z = false)) ∧ zs.length + gh ≤ c ∧ (∀ z ∈ zs, I64 z) ∧ wr.ownsRow (w.heap.size + 1) 3 1 (.slice oa zs.length oc) zs.length (zs.map (Value.int .i64)) ∧ Below w.heap.size w wr)
  case atStart => exact ⟨_, none, 0, [], HR0.out, rfl, List.Pairwise.nil, List.nodup_nil, (fun z => ⟨fun h => absurd h (by simp), fun h => by have h2 := h.2; rw [h.1] at h2; cases h2⟩), by simp, (by simp), World.ownsRow_nil _ _ _ _, HB0.out⟩
  case round =>
    obtain ⟨wo, hwo⟩ : ∃ wo, wo = wr := ⟨_, rfl⟩
    subst hwo
    obtain ⟨left, oa, oc, zs, hrg, rfl, hso, hnd, hiff, hlt0, hi64, how, hbe⟩ := hrel
    have HRG := Lib.hid hrg
    have HSO := Lib.hid hso
    have HND := Lib.hid hnd
    have HIFF := Lib.hid hiff
    have HLT := Lib.hid hlt0
    have HI64 := Lib.hid hi64
    have HOW := Lib.hid how
    have HBE := Lib.hid hbe
    have ko := hbe.size
    have lr := hrg.lt
    have hzl : zs.length ≤ 1048576 := by omega
    have hold : ∀ g, (Value.slice oa zs.length oc).ownBlock = some g → w.heap.size + 1 ≤ g ∧ g < wo.heap.size := fun g e => how.lt g e
    have HOLD := Lib.hid hold
    clear hrg hso hnd hiff hlt0 hi64 how hbe hold
    go_wp2_with (first | (at_next; refine wpList_th_next _ rfl _ rfl 3 Try.underlying3 b w.heap.size f c left _ rfl HRG.out (fun h0 hl0 => ?_) (fun id q w1 n1 hid hlt hfq hrg1 hn1 hg1 hs1 hen => ?_)) | (at_builtin; have HOW1 := Lib.hid (show w1.ownsRow (w.heap.size + 1) 3 1 (.slice oa zs.length oc) zs.length (zs.map (Value.int .i64)) from own_same HOW.out (fun g e => hg1.block g (HOLD.out g e).2 (fun e' => by have := (HOLD.out g e).1; simp at e'; omega))); have HRG1 := Lib.hid hrg1; have HG1 := Lib.hid hg1; have HFQ := Lib.hid hfq; have HLL := Lib.hid hlt; have HNN := Lib.hid hn1; have HID : Hid (I64 id) := Lib.hid hid; clear hrg1 hg1 hfq hlt hn1 hid; go_loud (refine wpList_append_own_at _ rfl (.tmp 14) (.tmp 16) _ rfl (w.heap.size + 1) 3 i0 _ 1 8 Try.underlying50 HI.out.1 HI.out.2.1 HI.out.2.2.1 HI.out.2.2.2 rfl (by omega) (.slice oa zs.length oc) zs.length (zs.map (Value.int .i64)) rfl (own_below HOW1.out ((Below.refl _ w1).alloc (Nat.le_refl _) _)) ⟨wo.heap.size, 0, none⟩ 1 1 [.int .i64 id] rfl rfl (by intro j u hu; rw [← hs1]; match j, hu with | 0, hu => (simp at hu; subst hu; rw [Addr.add_lit]; simp) | j + 1, hu => simp at hu) (by intro u hu; simp at hu; subst hu; rfl) (by unfold maxLen; omega) (by omega) (by simp; omega) ?_); intro v9 w9 hown9 hg9 _ hat9; obtain ⟨g9, c9, rfl, hg91, hg92⟩ := own_val hown9 (by omega); have HO9 := Lib.hid hown9; have HG9 := Lib.hid hg9; have HA9 := Lib.hid hat9; have kz9 := hg9.size; (try simp at kz9); clear hown9 hg9 hat9))
    · go_ret
      exact ⟨_, zs, rfl, own_mono HOW.out (by omega), HSO.out, HND.out, (fun z => by rw [HIFF.out z, hl0]; simp), HI64.out, by have := HLT.out; omega, HBE.out⟩
    · have HRG9 : Hid (RngA w9 b w.heap.size f c (fun j => left j && !(j == id)) n1) := Lib.hid (HRG1.out.block ((HG9.out.block b (by simp; omega) (fun e => by have := (HOLD.out b e.symm).1; omega)).trans (Below.heap_alloc w1 _ b (by omega))) ((HG9.out.block w.heap.size (by simp; omega) (fun e => by have := (HOLD.out _ e.symm).1; omega)).trans (Below.heap_alloc w1 _ _ (by omega))))
      have HBE9 : Hid (Below w.heap.size w w9) := Lib.hid (((HBE.out.grown HG1.out ko (by simp)).alloc (by omega) _).grown HG9.out (by simp; omega) (fun k hk => by have := (HOLD.out k hk).1; omega))
      have HW9 : Hid (w9.ownsRow (w.heap.size + 1) 3 1 (.slice (some ⟨g9, 0, none⟩) (zs.length + 1) c9) (zs.length + 1) ((zs ++ [id]).map (Value.int .i64))) := Lib.hid (by rw [List.map_append]; exact HO9.out)
      have HNI : Hid (id ∉ zs) := Lib.hid (fun e => by have := ((HIFF.out id).1 e).2; rw [HLL.out] at this; cases this)
      go_loopg [5] zs.length (fun gh i wr => ∃ (k : Nat) (out : List Int), k ≤ zs.length ∧ i = .int .i64 k ∧ gh = k ∧ M.Hole zs k out ∧ (∀ q ∈ zs.drop k, leI q id = false) ∧ wr.ownsRow (w.heap.size + 1) 3 1 (.slice (some ⟨g9, 0, none⟩) (zs.length + 1) c9) (zs.length + 1) (out.map (Value.int .i64)) ∧ Bar g9 w9 wr)
      case atStart => exact ⟨zs.length, zs ++ [id], Nat.le_refl _, rfl, rfl, M.hole_start zs id, (by simp), HW9.out, Bar.refl _ _⟩
      case round =>
        obtain ⟨wq, hwq⟩ : ∃ wq, wq = wr := ⟨_, rfl⟩
        subst hwq
        obtain ⟨k, out, hk, rfl, hgk, hho, hdr, how, hbar⟩ := hrel
        have HKK := Lib.hid hgk
        have HHO := Lib.hid hho
        have HDR := Lib.hid hdr
        have HOQ := Lib.hid how
        have HBAR := Lib.hid hbar
        have kq := hbar.size
        have lg := (how.lt g9 rfl).2
        have hol := M.hole_len hho hk
        have fq := fun j => how.frozenAt j
        clear hgk hho hdr hbar
        rcases Nat.eq_zero_or_pos k with hk0 | hkp
        · subst hk0
          obtain ⟨u1, hu1⟩ : ∃ u, out[0]? = some u := ⟨_, List.getElem?_eq_getElem (by omega)⟩
          have z1 := (how.cellAt 0 (by omega)).trans (show (out.map (Value.int .i64))[0]? = some (.int .i64 u1) by simp [hu1])
          have q0 : decide ((0 : Int) < ((0 : Nat) : Int)) = false := by rw [decide_eq_false_iff_not]; omega
          have q4 : (0 : Int) < (zs.length : Int) + 1 := by omega
          have hins := look_ins (x := id) HHO.out hk HDR.out (fun j q e _ => by omega) HSO.out
          have HINS := Lib.hid hins
          clear hu1 how hins
          go_wp2_with fail
          go_roundg n1
          case measure => exact HNN.out
          case rel => exact (by
            obtain ⟨s1, s2, s3⟩ := HINS.out
            refine ⟨fun j => left j && !(j == id), some ⟨g9, 0, none⟩, c9, out.set 0 id, ?_, by rw [s3], s1, ?_, ?_, ?_, ?_, ?_, ?_⟩
            · exact HRG9.out.block (((Below.heap_setCell _ _ _ _ (by simp; omega)).trans (HBAR.out.block b (by omega) (by omega)))) (((Below.heap_setCell _ _ _ _ (by simp; omega)).trans (HBAR.out.block w.heap.size (by omega) (by omega))))
            · exact s2.nodup_iff.2 (by rw [List.nodup_append]; exact ⟨HND.out, by simp, fun x hx y hy e => by simp only [List.mem_singleton] at hy; subst hy; subst e; exact HNI.out hx⟩)
            · intro z
              rw [s2.mem_iff, List.mem_append, List.mem_singleton, HIFF.out z]
              by_cases hz : z = id
              · subst hz
                simp [HFQ.out]
              · simp [hz]
            · have := HLT.out; have := HNN.out; omega
            · intro z hz
              rcases List.mem_append.1 (s2.mem_iff.1 hz) with h | h
              · exact HI64.out z h
              · simp only [List.mem_singleton] at h; subst h; exact HID.out
            · rw [s3]
              exact own_same (ints_put HOQ.out 0 id) (fun _ _ => rfl)
            · exact (HBE9.out.trans (HBAR.out.below (B := w.heap.size) (by omega) (by omega))).setCell (by simp; omega) _)
        · obtain ⟨j, rfl⟩ : ∃ j, k = j + 1 := ⟨k - 1, by omega⟩
          obtain ⟨u, hu⟩ : ∃ u, zs[j]? = some u := ⟨_, List.getElem?_eq_getElem (by omega)⟩
          have hou := (M.hole_at HHO.out hk (Nat.lt_succ_self j)).trans hu
          have z0 := (how.cellAt j (by omega)).trans (show (out.map (Value.int .i64))[j]? = some (.int .i64 u) by simp [hou])
          have q0 : decide ((0 : Int) < ((j : Int) + 1)) = true := by rw [decide_eq_true_eq]; omega
          have q1 : (0 : Int) ≤ (j : Int) := by omega
          have q2 : (j : Int) < (zs.length : Int) + 1 := by omega
          have hw1 : IntKind.i64.wrap ((j : Int) + 1 - 1) = (j : Int) := by rw [IntKind.wrap_i64]; omega
          have HU := Lib.hid hu
          obtain ⟨u1, hu1⟩ : ∃ u, out[j + 1]? = some u := ⟨_, List.getElem?_eq_getElem (by omega)⟩
          have z1 := (how.cellAt (j + 1) (by omega)).trans (show (out.map (Value.int .i64))[j + 1]? = some (.int .i64 u1) by simp [hu1])
          have q8 : ((j : Int) + 1) < (zs.length : Int) + 1 := by omega
          clear hu1 how hou hu
          rw [show ((j + 1 : Nat) : Int) = (j : Int) + 1 by omega]
          by_cases hgt : id < u
          · have HGT := Lib.hid hgt
            go_wp2_with fail
            go_roundg j
            case measure => rw [HKK.out]; omega
            case rel =>
              refine ⟨j, out.set (j + 1) u, by omega, by go_num, rfl, M.hole_go HHO.out hk HU.out, ?_, ?_, HBAR.out.setCell _ _⟩
              · intro q hq
                rw [List.drop_eq_getElem_cons (show j < zs.length by omega)] at hq
                rcases List.mem_cons.1 hq with e | e
                · have hu2 := HU.out
                  rw [List.getElem?_eq_getElem (show j < zs.length by omega)] at hu2
                  simp only [Option.some.injEq] at hu2
                  have := HGT.out
                  rw [e, hu2]
                  unfold leI
                  rw [decide_eq_false_iff_not]
                  omega
                · exact HDR.out q e
              · exact own_same (ints_put HOQ.out (j + 1) u) (fun _ _ => rfl)
          · have q7 : decide (id < u) = false := decide_eq_false hgt
            have hins := look_ins (x := id) HHO.out hk HDR.out (fun j' q e hq => by
              obtain rfl : j' = j := by omega
              rw [HU.out] at hq
              simp only [Option.some.injEq] at hq
              subst hq
              unfold leI
              rw [decide_eq_true_eq]
              omega) HSO.out
            have HINS := Lib.hid hins
            clear hins
            go_wp2_with fail
            go_roundg n1
            case measure => exact HNN.out
            case rel => exact (by
              obtain ⟨s1, s2, s3⟩ := HINS.out
              refine ⟨fun j => left j && !(j == id), some ⟨g9, 0, none⟩, c9, out.set (j + 1) id, ?_, by rw [s3], s1, ?_, ?_, ?_, ?_, ?_, ?_⟩
              · exact HRG9.out.block (((Below.heap_setCell _ _ _ _ (by simp; omega)).trans (HBAR.out.block b (by omega) (by omega)))) (((Below.heap_setCell _ _ _ _ (by simp; omega)).trans (HBAR.out.block w.heap.size (by omega) (by omega))))
              · exact s2.nodup_iff.2 (by rw [List.nodup_append]; exact ⟨HND.out, by simp, fun x hx y hy e => by simp only [List.mem_singleton] at hy; subst hy; subst e; exact HNI.out hx⟩)
              · intro z
                rw [s2.mem_iff, List.mem_append, List.mem_singleton, HIFF.out z]
                by_cases hz : z = id
                · subst hz
                  simp [HFQ.out]
                · simp [hz]
              · have := HLT.out; have := HNN.out; omega
              · intro z hz
                rcases List.mem_append.1 (s2.mem_iff.1 hz) with h | h
                · exact HI64.out z h
                · simp only [List.mem_singleton] at h; subst h; exact HID.out
              · rw [s3]
                exact own_same (ints_put HOQ.out (j + 1) id) (fun _ _ => rfl)
              · exact (HBE9.out.trans (HBAR.out.below (B := w.heap.size) (by omega) (by omega))).setCell (by simp; omega) _)
end Go.Proofs.Ytkpecagkpjabdab
/- The contract of the document's Having, at the things of a good store: it answers as Query does. Condition: the things lie in memory. -/
namespace Go.Proofs.Ytkpecagkpjabdab
open Go.RowKit
set_option linter.unusedVariables false
set_option linter.unusedSimpArgs false
set_option maxRecDepth 100000
/-- has the thing of that number all parts of the mask? -/
def M.hasAll (f : Int → Option M.Th) (m z : Int) : Bool := decide (bits .and .i64 ((f z).getD M.th0).1 m = m)
theorem M.asc_unique {a b : List Int} (ha : a.Pairwise (· < ·)) (hb : b.Pairwise (· < ·)) (h : ∀ z, z ∈ a ↔ z ∈ b) : a = b := by
  have na : a.Nodup := ha.imp (fun h => by omega)
  have nb : b.Nodup := hb.imp (fun h => by omega)
  exact List.Perm.eq_of_pairwise (le := fun a b : Int => a ≤ b) (fun a b _ _ h1 h2 => by omega) (ha.imp (fun h => by omega)) (hb.imp (fun h => by omega)) ((List.perm_ext_iff_of_nodup na nb).2 h)
theorem M.having_query {s : M.Store} (g : M.GoodS s) (m : Int) {zs : List Int} (hs : zs.Pairwise (fun a b => leI a b = true)) (hn : zs.Nodup) (hi : ∀ z, z ∈ zs ↔ (M.look (M.entries s) z).isSome = true) :
    zs.filter (M.hasAll (M.look (M.entries s)) m) = M.query s m := by
  refine M.asc_unique ?_ (M.query_asc g m) (fun z => ?_)
  · have h2 : zs.Pairwise (· < ·) := (List.pairwise_and_iff.2 ⟨hs, hn⟩).imp (fun ⟨h1, h2⟩ => by unfold leI at h1; simp at h1; omega)
    exact h2.filter _
  · rw [List.mem_filter, hi, M.mem_query g]
    unfold M.hasAll
    constructor
    · rintro ⟨h1, h2⟩
      obtain ⟨⟨n, r⟩, h3⟩ := Option.isSome_iff_exists.1 h1
      rw [h3] at h2
      exact ⟨n, r, h3, by simpa using h2⟩
    · rintro ⟨n, r, h3, h4⟩
      rw [h3]
      exact ⟨rfl, by simpa using h4⟩
theorem th_field (t : M.Th) (w : World) : (Instr.field 65 (thV t) 0).run Try.prog w = .ok (.int .i64 t.1) w := by kernel_rfl
set_option maxHeartbeats 8000000 in
set_option maxRecDepth 100000 in
theorem having_calls {w : World} {b c : Nat} {f : Int → Option M.Th} (h : MapA w b f c) (hc : c ≤ 1048576) (m : Int) :
    Calls Try.prog 32 #[.map (some b), .int .i64 m] w fun e w' => ∃ (v' : Value) (zs : List Int), e = .returned v' ∧ w'.ownsRow w.heap.size 3 1 v' (zs.filter (M.hasAll f m)).length ((zs.filter (M.hasAll f m)).map (Value.int .i64)) ∧ zs.Pairwise (fun a b => leI a b = true) ∧ zs.Nodup ∧ (∀ z, z ∈ zs ↔ (f z).isSome = true) ∧ Below w.heap.size w w' := by
  have HSC := Lib.hid (fun U (hb : Below w.heap.size w U) => sorted_calls (h.below hb h.lt) hc)
  have HM := Lib.hid h
  have lb := h.lt
  obtain ⟨i0, hi, hz0, hz1, hz2⟩ := info_parts infoInt
  have HI := Lib.hid (And.intro hi (And.intro hz0 (And.intro hz1 hz2)))
  clear hi hz0 hz1 hz2
  clear h
  go_enter Try.func32, Try.ntmps32
  go_wp2_with (go_at_call 60; refine (HSC.out _ (Below.refl _ _)).mono ?_; rintro e w1 ⟨v1, zs, rfl, ho1, hs1, hn1, hi1, h641, hl1, hb1⟩; obtain ⟨a1, c1, rfl⟩ := own_form ho1)
  have HO1 : Hid (IntsAt w1 0 (.slice a1 zs.length c1) zs) := Lib.hid (Lies.mono (Lies.of_owns ho1) (Nat.zero_le _))
  have HS1 := Lib.hid hs1
  have HN1 := Lib.hid hn1
  have HI1 := Lib.hid hi1
  have H64 := Lib.hid h641
  have HB1 := Lib.hid hb1
  have k1 := hb1.size
  have hzl : zs.length ≤ 1048576 := by omega
  clear ho1 hs1 hn1 hi1 h641 hb1
  go_loopg [5, 11] zs.length (fun g o i wr => ∃ (n : Nat) (oa : Option Addr) (oc : Nat), n ≤ zs.length ∧ i = .int .i64 n ∧ o = .slice oa ((zs.take n).filter (M.hasAll f m)).length oc ∧ g = zs.length - n ∧ wr.ownsRow w.heap.size 3 1 (.slice oa ((zs.take n).filter (M.hasAll f m)).length oc) ((zs.take n).filter (M.hasAll f m)).length (((zs.take n).filter (M.hasAll f m)).map (Value.int .i64)) ∧ (∀ g, (Value.slice oa ((zs.take n).filter (M.hasAll f m)).length oc).ownBlock = some g → w1.heap.size ≤ g) ∧ Below w1.heap.size w1 wr)
  case atStart => exact ⟨0, none, 0, Nat.zero_le _, rfl, rfl, rfl, World.ownsRow_nil _ _ _ _, (fun g e => by cases e), Below.refl _ _⟩
  case round =>
    obtain ⟨wo, hwo⟩ : ∃ wo, wo = wr := ⟨_, rfl⟩
    subst hwo
    obtain ⟨n, oa, oc, hn, rfl, rfl, hgk, how, hnb, hbe⟩ := hrel
    have HOW := Lib.hid how
    have HNB := Lib.hid hnb
    have HBE := Lib.hid hbe
    have HK := Lib.hid hgk
    have ko := hbe.size
    have hbw : Below w.heap.size w wo := HB1.out.trans (hbe.mono k1)
    have HBW := Lib.hid hbw
    have hfl : ((zs.take n).filter (M.hasAll f m)).length ≤ 1048576 := by
      have := List.length_filter_le (M.hasAll f m) (zs.take n)
      have := List.length_take_le n zs
      omega
    clear hgk how hnb hbe
    rcases Nat.lt_or_ge n zs.length with hlt | hge
    · obtain ⟨z, hz⟩ : ∃ z, zs[n]? = some z := ⟨_, List.getElem?_eq_getElem hlt⟩
      obtain ⟨b3, o3, c3, e3, _, i0'⟩ := (HO1.out.below HBE.out).at hz
      obtain ⟨rfl, rfl⟩ : a1 = some ⟨b3, o3, none⟩ ∧ c1 = c3 := by simpa using e3
      have hid : I64 z := H64.out z (List.mem_of_getElem? hz)
      have HID := Lib.hid hid
      have HMO := Lib.hid (HM.out.below hbw lb)
      have hstep : (zs.take (n + 1)).filter (M.hasAll f m) = (zs.take n).filter (M.hasAll f m) ++ (if M.hasAll f m z = true then [z] else []) := by
        rw [List.take_add_one, hz, List.filter_append]
        simp only [Option.toList_some, List.filter_cons, List.filter_nil]
      have HST := Lib.hid hstep
      obtain ⟨t, ht⟩ : ∃ t, t = (f z).getD M.th0 := ⟨_, rfl⟩
      have HT := Lib.hid ht
      have FC := fun W => th_field t W
      obtain ⟨os, hos⟩ : ∃ os, os = (zs.take n).filter (M.hasAll f m) := ⟨_, rfl⟩
      have HOS := Lib.hid hos
      rw [← hos] at HOW HNB hfl HST
      rw [← hos]
      clear e3 hz hid hstep ht hbw hos
      by_cases hm : bits .and .i64 t.1 m = m
      · have qm : (bits .and .i64 t.1 m == m) = true := by simpa using hm
        have hh : M.hasAll f m z = true := by unfold M.hasAll; rw [← HT.out]; exact decide_eq_true hm
        have HH := Lib.hid hh
        clear hm hh
        go_wp2_with (first | (at_lookup; refine wpList_th_get _ rfl _ _ 58 rfl 3 65 Try.underlying3 Try.underlying58 (th_zero _) b f c rfl HMO.out z rfl HID.out ?_; rw [← HT.out]) | (at_builtin; go_loud (refine wpList_append_own_at _ rfl (.tmp 23) (.tmp 25) _ rfl w.heap.size 3 i0 _ 1 8 Try.underlying50 HI.out.1 HI.out.2.1 HI.out.2.2.1 HI.out.2.2.2 rfl (by omega) (.slice oa os.length oc) os.length (os.map (Value.int .i64)) rfl (own_below HOW.out ((Below.refl _ wo).alloc (Nat.le_refl _) _)) ⟨wo.heap.size, 0, none⟩ 1 1 [.int .i64 z] rfl rfl (by intro j u hu; match j, hu with | 0, hu => (simp at hu; subst hu; rw [Addr.add_lit]; simp) | j + 1, hu => simp at hu) (by intro u hu; simp at hu; subst hu; rfl) (by unfold maxLen; omega) (by omega) (by simp; omega) ?_); intro v9 w9 hown9 hg9 _ hat9; obtain ⟨a9, c9, rfl⟩ := own_form hown9; have HO9 := Lib.hid hown9; have HG9 := Lib.hid hg9; have HA9 := Lib.hid hat9; have kz9 := hg9.size; (try simp at kz9); clear hown9 hg9 hat9))
        go_roundg (zs.length - (n + 1))
        case measure => rw [HK.out]; omega
        case rel =>
          have e1 : (zs.take (n + 1)).filter (M.hasAll f m) = os ++ [z] := by rw [HST.out, if_pos HH.out]
          have e2 : ((zs.take (n + 1)).filter (M.hasAll f m)).length = os.length + 1 := by rw [e1]; simp
          refine ⟨n + 1, a9, c9, by omega, by go_num, by rw [e2], rfl, ?_, ?_, ?_⟩
          · rw [e1, List.map_append]
            have := HO9.out
            simpa using this
          · intro g e
            rw [e2] at e
            rcases HA9.out with k | k
            · exact HNB.out g (k ▸ (by simpa [Value.ownBlock] using e))
            · have : g = wo.heap.size + 1 := by
                rw [k] at e
                simpa using e.symm
              omega
          · exact ((HBE.out.alloc ko _).grown HG9.out (by simp; omega) (fun k hk => HNB.out k hk))
      · have qm : (bits .and .i64 t.1 m == m) = false := by simpa using hm
        have hh : M.hasAll f m z = false := by unfold M.hasAll; rw [← HT.out]; exact decide_eq_false hm
        have HH := Lib.hid hh
        clear hm hh
        go_wp2_with (first | (at_lookup; refine wpList_th_get _ rfl _ _ 58 rfl 3 65 Try.underlying3 Try.underlying58 (th_zero _) b f c rfl HMO.out z rfl HID.out ?_; rw [← HT.out]))
        go_roundg (zs.length - (n + 1))
        case measure => rw [HK.out]; omega
        case rel =>
          have e1 : (zs.take (n + 1)).filter (M.hasAll f m) = os := by rw [HST.out, if_neg (by rw [HH.out]; simp), List.append_nil]
          exact ⟨n + 1, oa, oc, by omega, by go_num, by rw [e1], rfl, by rw [e1]; exact HOW.out, by rw [e1]; exact HNB.out, HBE.out⟩
    · obtain rfl : n = zs.length := by omega
      have q9 : decide ((zs.length : Int) < (zs.length : Int)) = false := decide_eq_false (by omega)
      rw [List.take_length] at HOW
      rw [List.take_length]
      go_wp2_with fail
      go_ret
      exact ⟨_, zs, rfl, HOW.out, HS1.out, HN1.out, HI1.out, HBW.out⟩
end Go.Proofs.Ytkpecagkpjabdab
