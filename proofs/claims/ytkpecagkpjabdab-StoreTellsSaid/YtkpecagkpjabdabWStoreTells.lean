/- The walk of StoreTells. Condition: the store lies in memory, its numbers are of 64 bits, it is no longer than memory allows. -/
import Derived.Test.YtkpecagkpjabdabOpenSized
import Derived.Test.YtkpecagkpjabdabBagP
import Derived.Test.YtkpecagkpjabdabRefCopied
import Derived.Test.YtkpecagkpjabdabRefThings2
import Derived.Test.YtkpecagkpjabdabBagT
import Derived.Test.YtkpecagkpjabdabRefReply
import Derived.Test.YtkpecagkpjabdabRefSame
import Derived.Test.YtkpecagkpjabdabRowEq
import Derived.Test.YtkpecagkpjabdabLThings
import Derived.Test.YtkpecagkpjabdabStoreQuery
import Derived.Test.YtkpecagkpjabdabStoreGood
import Derived.Test.YtkpecagkpjabdabStoreRow
import Derived.Test.YtkpecagkpjabdabStoreBounds
import Derived.Deep.RegionHeld3
namespace Go.Proofs.Ytkpecagkpjabdab
open Go.RowKit
set_option linter.unusedVariables false
set_option linter.unusedSimpArgs false
set_option maxRecDepth 100000
theorem M.asGot_eq (x : Option (Int × M.Row)) : M.asGot x = ((x.getD M.th0).1, (x.getD M.th0).2, x.isSome) := by cases x <;> rfl
set_option maxHeartbeats 8000000 in
set_option maxRecDepth 100000 in
theorem storeTells_walk (s : M.Store) (id m : Int) (r : M.Row) (w : World) {v : Value} (hsi : StoreAt w 0 v s ∧ StoreIn s ∧ Sized s) (hid : I64 id) (hm : I64 m) (hr : RowOk r) :
    Calls Try.prog 7 #[v, .int .i64 id, .int .i64 m, rowV r] w fun e w' => e = .returned (.bool true) ∧ Below w.heap.size w w' := by
  obtain ⟨h, hin, hsz⟩ := hsi
  have HST := Lib.hid h
  have HCO := Lib.hid (fun W (hb : Below w.heap.size w W) => lcopied_calls (h.below hb) hsz)
  have HTH := Lib.hid (fun W (hb : Below w.heap.size w W) => thingsOf_calls (h.below hb) hin hsz)
  have HIN := Lib.hid hin
  have HID := Lib.hid hid
  have HM := Lib.hid hm
  obtain ⟨vt, rfl, hs, hT⟩ := h
  obtain ⟨a, cap, rfl⟩ := hT.val
  clear hT hs hin hsz hid hm hr
  go_enter Try.func7, Try.ntmps7
  go_upto_region 3 with (first | (go_at_call 22; refine (HCO.out _ (by repeat first | with_reducible assumption | with_reducible exact Below.refl _ _ | with_reducible apply Below.drew | with_reducible apply below_drewN | with_reducible apply Below.alloc (hB := (by first | omega | (simp; done) | (simp; omega))) | with_reducible apply Below.setCell (hp := (by first | omega | (simp; done) | (simp; omega))))).mono ?_; rintro e w1 ⟨a1, c1, hs1, rfl, ho1, hb1⟩; have HO1 := Lib.hid ho1; have K1 : Below w.heap.size w w1 := (show Below w.heap.size w _ from (by repeat first | with_reducible assumption | with_reducible exact Below.refl _ _ | with_reducible apply Below.drew | with_reducible apply below_drewN | with_reducible apply Below.alloc (hB := (by first | omega | (simp; done) | (simp; omega))) | with_reducible apply Below.setCell (hp := (by first | omega | (simp; done) | (simp; omega))))).trans (hb1.mono (by first | omega | (simp; done) | (simp; omega))); have kz1 := K1.size; have kz2 := hb1.size; (try simp at kz2); have lt4 : w.heap.size < w1.heap.size := (by omega); have HB4 : Hid (Blk w1 w.heap.size 24 #[.slice a s.tables.length cap, .int .i64 s.next]) := Lib.hid (((Blk.new_at rfl).alloc _).below hb1 (by simp; omega)); have HB7 : Hid (Blk w1 (w.heap.size + 1) 26 (rowC r)) := Lib.hid ((Blk.new_at (by simp)).below hb1 (by simp)); have b40 := HB4.out.cell 0; have b41 := HB4.out.cell 1; (try simp at b40 b41); clear ho1 hb1) | (go_at_call 23; refine (HTH.out _ (by repeat first | with_reducible assumption | with_reducible exact Below.refl _ _ | with_reducible apply Below.drew | with_reducible apply below_drewN | with_reducible apply Below.alloc (hB := (by first | omega | (simp; done) | (simp; omega))) | with_reducible apply Below.setCell (hp := (by first | omega | (simp; done) | (simp; omega))))).mono ?_; rintro e w2 ⟨mp, rfl, hmp, hb2⟩; have HMP := Lib.hid hmp; have HB2 := Lib.hid hb2; clear hmp hb2))
  refine wp_called (fun W0 hW0 => ?_)
  have K10 : Below w1.heap.size w1 W0 := by rw [hW0]; exact ((Below.refl _ w1).alloc (Nat.le_refl _) _).trans (HB2.out.mono (by simp))
  have K0 : Below w.heap.size w W0 := K1.trans (K10.mono kz1)
  have B4 := HB4.out.below K10 HB4.out.lt
  have B7 := HB7.out.below K10 HB7.out.lt
  have B9 : Blk W0 w1.heap.size 24 #[.slice a1 s.tables.length c1, .int .i64 s.next] := by rw [hW0]; exact (Blk.new_at rfl).below HB2.out (by simp)
  have HCC : Hid (StoreAt W0 0 (.agg #[.slice a1 s.tables.length c1, .int .i64 s.next]) s) := Lib.hid (StoreAt.mono (lo := _) ⟨_, rfl, hs1, HO1.out.tabs.below K10⟩ (Nat.zero_le _))
  have HOO : Hid (StoreAt W0 0 (.agg #[.slice a s.tables.length cap, .int .i64 s.next]) s) := Lib.hid (HST.out.below K0)
  have HMP2 : Hid (M.good s = true → ∃ b, mp = some b ∧ MapA W0 b (M.look (M.entries s)) (M.size s)) := Lib.hid (fun g => by obtain ⟨b, e, _, q⟩ := HMP.out g; exact ⟨b, e, by rw [hW0]; exact q⟩)
  have HK0 := Lib.hid K0
  have k0 := K0.size
  have z4 := B4.lt
  have z7 := B7.lt
  have z9 := B9.lt
  have SB := Lib.hid (fun W (hb : Below W0.heap.size W0 W) => show W.cell? ⟨w.heap.size, 0, none⟩ = some (.slice a s.tables.length cap) ∧ W.cell? ⟨w.heap.size, 1, none⟩ = some (.int .i64 s.next) ∧ W.cell? ⟨w.heap.size + 1, 0, none⟩ = some (.int .i64 r.X) ∧ W.cell? ⟨w.heap.size + 1, 1, none⟩ = some (.int .i64 r.Y) ∧ W.cell? ⟨w.heap.size + 1, 2, none⟩ = some (.int .i64 r.PX) ∧ W.cell? ⟨w.heap.size + 1, 3, none⟩ = some (.int .i64 r.PY) ∧ W.cell? ⟨w.heap.size + 1, 4, none⟩ = some (.int .i64 r.W) ∧ W.cell? ⟨w.heap.size + 1, 5, none⟩ = some (.int .i64 r.H) ∧ W.cell? ⟨w.heap.size + 1, 6, none⟩ = some (.int .i64 r.M) ∧ W.cell? ⟨w.heap.size + 1, 7, none⟩ = some (.int .i64 r.R) ∧ W.cell? ⟨w1.heap.size, 0, none⟩ = some (.slice a1 s.tables.length c1) ∧ W.cell? ⟨w1.heap.size, 1, none⟩ = some (.int .i64 s.next) from by
    have x := B4.below hb B4.lt
    have y := B7.below hb B7.lt
    have z := B9.below hb B9.lt
    exact ⟨x.cell 0, x.cell 1, y.cell 0, y.cell 1, y.cell 2, y.cell 3, y.cell 4, y.cell 5, y.cell 6, y.cell 7, z.cell 0, z.cell 1⟩)
  have HG := Lib.hid (fun W (hb : Below W0.heap.size W0 W) => storeGood_calls (HCC.out.below hb) HIN.out)
  have HGR := Lib.hid (fun W (_ : Below W0.heap.size W0 W) => goodRow_calls m r W)
  have HIR := Lib.hid (fun W (_ : Below W0.heap.size W0 W) => isRow_calls m r W)
  have HON := Lib.hid (fun W (_ : Below W0.heap.size W0 W) => only_calls (bits .and .i64 m 31) r W)
  have HOF := Lib.hid (fun W (_ : Below W0.heap.size W0 W) => onlyOf_calls (and31 m).1 (and31 m).2 r W)
  have HSA := Lib.hid (fun W (hb : Below W0.heap.size W0 W) => lsame_calls (HCC.out.below hb) (HOO.out.below hb))
  have HTT := Lib.hid (fun W (_ : Below W0.heap.size W0 W) => lthings_calls W)
  obtain ⟨gq, hgq⟩ : ∃ q, M.good s = q := ⟨_, rfl⟩
  obtain ⟨rq, hrq⟩ : ∃ q, M.goodRow m r = q := ⟨_, rfl⟩
  obtain ⟨oq, hoq⟩ : ∃ q, M.only (bits .and .i64 m 31) r = q := ⟨_, rfl⟩
  rw [hgq] at HG
  rw [hrq] at HGR HIR
  rw [hoq] at HON HOF
  have HGQ := Lib.hid hgq
  have q1 : (gq != gq) = false := by simp
  have q2 : (rq != rq) = false := by simp
  have q3 := rowNe_self oq
  have e0 : M.good s = gq := hgq
  obtain ⟨s0, s1, s2, s3, s4, s5, s6, s7, s8, s9, s10, s11⟩ := SB.out W0 (Below.refl _ _)
  clear hW0 K0 K1 K10 B4 B7 B9 hgq hrq hoq b40 b41 HB4 HB7 HO1 HMP HB2 HCO HTH HST
  rw [e0]
  clear e0
  go_cut [57] (fun q W => q = .bool false ∧ Below W0.heap.size W0 W)
  case first =>
    go_region_held3 (fun W => W.cell? ⟨w.heap.size, 0, none⟩ = some (.slice a s.tables.length cap) ∧ W.cell? ⟨w.heap.size, 1, none⟩ = some (.int .i64 s.next) ∧ W.cell? ⟨w.heap.size + 1, 0, none⟩ = some (.int .i64 r.X) ∧ W.cell? ⟨w.heap.size + 1, 1, none⟩ = some (.int .i64 r.Y) ∧ W.cell? ⟨w.heap.size + 1, 2, none⟩ = some (.int .i64 r.PX) ∧ W.cell? ⟨w.heap.size + 1, 3, none⟩ = some (.int .i64 r.PY) ∧ W.cell? ⟨w.heap.size + 1, 4, none⟩ = some (.int .i64 r.W) ∧ W.cell? ⟨w.heap.size + 1, 5, none⟩ = some (.int .i64 r.H) ∧ W.cell? ⟨w.heap.size + 1, 6, none⟩ = some (.int .i64 r.M) ∧ W.cell? ⟨w.heap.size + 1, 7, none⟩ = some (.int .i64 r.R) ∧ W.cell? ⟨w1.heap.size, 0, none⟩ = some (.slice a1 s.tables.length c1) ∧ W.cell? ⟨w1.heap.size, 1, none⟩ = some (.int .i64 s.next)) (first | ((with_reducible refine SB.out _ ?_); (first | with_reducible exact G17 | with_reducible exact G16 | with_reducible exact G15 | with_reducible exact G14 | with_reducible exact G13 | with_reducible exact G12 | with_reducible exact G11 | with_reducible exact (Below.refl _ _).drew | with_reducible exact Below.refl _ _); done)) (first | (go_at_call 9; refine (HG.out _ (by first | with_reducible exact (Below.refl _ _).drew | with_reducible exact Below.refl _ _)).mono ?_; rintro e w11 ⟨rfl, hb11⟩; have G11 : Below W0.heap.size W0 w11 := (show Below W0.heap.size W0 _ from (by first | with_reducible exact (Below.refl _ _).drew | with_reducible exact Below.refl _ _)).trans (Below.mono (B' := W0.heap.size) (show Below _ _ w11 from hb11) (by first | omega | (simp; done) | (simp; omega))); have gz11 := G11.size) | (go_at_call 24; refine (HGR.out _ (by first | with_reducible exact G11 | with_reducible exact (Below.refl _ _).drew | with_reducible exact Below.refl _ _)).mono ?_; rintro e w12 ⟨rfl, hb12⟩; have G12 : Below W0.heap.size W0 w12 := (show Below W0.heap.size W0 _ from (by first | with_reducible exact G11 | with_reducible exact (Below.refl _ _).drew | with_reducible exact Below.refl _ _)).trans (Below.mono (B' := W0.heap.size) (show Below _ _ w12 from hb12) (by first | omega | (simp; done) | (simp; omega))); have gz12 := G12.size) | (go_at_call 25; refine (HIR.out _ (by first | with_reducible exact G12 | with_reducible exact (Below.refl _ _).drew | with_reducible exact Below.refl _ _)).mono ?_; rintro e w13 ⟨rfl, hb13⟩; have G13 : Below W0.heap.size W0 w13 := (show Below W0.heap.size W0 _ from (by first | with_reducible exact G12 | with_reducible exact (Below.refl _ _).drew | with_reducible exact Below.refl _ _)).trans (Below.mono (B' := W0.heap.size) (show Below _ _ w13 from hb13) (by first | omega | (simp; done) | (simp; omega))); have gz13 := G13.size) | (go_at_call 26; refine (HON.out _ (by first | with_reducible exact G13 | with_reducible exact (Below.refl _ _).drew | with_reducible exact Below.refl _ _)).mono ?_; rintro e w14 ⟨rfl, hb14⟩; have G14 : Below W0.heap.size W0 w14 := (show Below W0.heap.size W0 _ from (by first | with_reducible exact G13 | with_reducible exact (Below.refl _ _).drew | with_reducible exact Below.refl _ _)).trans (Below.mono (B' := W0.heap.size) (show Below _ _ w14 from hb14) (by first | omega | (simp; done) | (simp; omega))); have gz14 := G14.size) | (go_at_call 27; refine (HOF.out _ (by first | with_reducible exact G14 | with_reducible exact (Below.refl _ _).drew | with_reducible exact Below.refl _ _)).mono ?_; rintro e w15 ⟨rfl, hb15⟩; have G15 : Below W0.heap.size W0 w15 := (show Below W0.heap.size W0 _ from (by first | with_reducible exact G14 | with_reducible exact (Below.refl _ _).drew | with_reducible exact Below.refl _ _)).trans (Below.mono (B' := W0.heap.size) (show Below _ _ w15 from hb15) (by first | omega | (simp; done) | (simp; omega))); have gz15 := G15.size) | (go_at_call 28; refine (HSA.out _ (by first | with_reducible exact G15 | with_reducible exact (Below.refl _ _).drew | with_reducible exact Below.refl _ _)).mono ?_; rintro e w16 ⟨rfl, hb16⟩; have G16 : Below W0.heap.size W0 w16 := (show Below W0.heap.size W0 _ from (by first | with_reducible exact G15 | with_reducible exact (Below.refl _ _).drew | with_reducible exact Below.refl _ _)).trans (Below.mono (B' := W0.heap.size) (show Below _ _ w16 from hb16) (by first | omega | (simp; done) | (simp; omega))); have gz16 := G16.size) | (go_at_call 29; refine (HTT.out _ (by first | with_reducible exact G16 | with_reducible exact (Below.refl _ _).drew | with_reducible exact Below.refl _ _)).mono ?_; rintro e w17 ⟨rfl, hb17⟩; have G17 : Below W0.heap.size W0 w17 := (show Below W0.heap.size W0 _ from (by first | with_reducible exact G16 | with_reducible exact (Below.refl _ _).drew | with_reducible exact Below.refl _ _)).trans (Below.mono (B' := W0.heap.size) (show Below _ _ w17 from hb17) (by first | omega | (simp; done) | (simp; omega))); have gz17 := G17.size))
    all_goals
      go_wp2_with fail
      go_meet
      exact ⟨rfl, G17⟩
  case rest =>
  obtain ⟨rfl, hbc⟩ := hcut
  have kc := hbc.size
  cases gq with
  | false =>
    go_wp2_with fail
    go_ret
    exact ⟨rfl, HK0.out.trans (hbc.mono k0)⟩
  | true =>
    have hgs := (M.good_iff s).1 HGQ.out
    obtain ⟨-, -, -, -, -, -, -, -, -, -, v10, v11⟩ := SB.out _ hbc
    obtain ⟨bm, rfl, hmb⟩ := HMP2.out HGQ.out
    have lm := hmb.lt
    have HMB := Lib.hid hmb
    obtain ⟨q, hq⟩ : ∃ q, (M.look (M.entries s) id).getD M.th0 = q := ⟨_, rfl⟩
    obtain ⟨ok, hok⟩ : ∃ q, (M.look (M.entries s) id).isSome = q := ⟨_, rfl⟩
    have HGE : Hid (∀ W, Below W0.heap.size W0 W → Calls Try.prog 16 #[.agg #[.slice a1 s.tables.length c1, .int .i64 s.next], .int .i64 id] W fun e w' => e = .returned (.tuple #[.int .i64 q.1, rowV q.2, .bool ok]) ∧ Below W.heap.size W w') := Lib.hid (fun W hb => by
      have h := get_calls (HCC.out.below hb) id
      rw [hgs.get, M.asGot_eq, hq, hok] at h
      exact h)
    have h10 : (M.idsT s.tables).length ≤ 10 := hgs.2.2.2.1
    obtain ⟨c, hc⟩ : ∃ c, M.size s = c := ⟨_, rfl⟩
    have hc10 : c ≤ 1048576 := by rw [← hc]; unfold M.size; omega
    have HSI : Hid (∀ W, Below W0.heap.size W0 W → Calls Try.prog 30 #[.agg #[.slice a1 s.tables.length c1, .int .i64 s.next]] W fun e w' => e = .returned (.int .i64 (c : Int)) ∧ Below W.heap.size W w') := Lib.hid (fun W hb => by
      have h := size_calls (HCC.out.below hb)
      rw [M.sizeW_eq _ (by omega)] at h
      rw [← hc]
      exact h)
    have HQU := Lib.hid (fun W (hb : Below W0.heap.size W0 W) => query_calls (HCC.out.below hb) hgs (bits .and .i64 m 31))
    rw [hc] at HMB
    have HHA := Lib.hid (fun W (hb : Below W0.heap.size W0 W) => having_calls (HMB.out.below hb lm) hc10 (bits .and .i64 m 31))
    have HGS := Lib.hid hgs
    have HQ := Lib.hid hq
    have HOK := Lib.hid hok
    have qe1 := row_eql_yes q.2 q.2
    have qe2 : (ok == ok) = true := by simp
    clear hgs hmb hq hok h10 hc
    go_upto_region 8 with (go_at_call 16; refine (HGE.out _ (by repeat first | with_reducible assumption | with_reducible exact Below.refl _ _ | with_reducible apply Below.drew | with_reducible apply below_drewN | with_reducible apply Below.alloc (hB := (by first | omega | (simp; done) | (simp; omega))) | with_reducible apply Below.setCell (hp := (by first | omega | (simp; done) | (simp; omega))))).mono ?_; rintro e w21 ⟨rfl, hb21⟩; have G21 : Below W0.heap.size W0 w21 := (show Below W0.heap.size W0 _ from (by repeat first | with_reducible assumption | with_reducible exact Below.refl _ _ | with_reducible apply Below.drew | with_reducible apply below_drewN | with_reducible apply Below.alloc (hB := (by first | omega | (simp; done) | (simp; omega))) | with_reducible apply Below.setCell (hp := (by first | omega | (simp; done) | (simp; omega))))).trans (hb21.mono (by first | omega | (simp; done) | (simp; omega))); have gz21 := G21.size; obtain ⟨-, -, -, -, -, -, -, -, -, -, u10, u11⟩ := SB.out w21 G21; have ltb : w1.heap.size < w21.heap.size := (by omega); clear hb21)
    go_wp2_with (first | (at_lookup; refine wpList_th_look _ rfl _ _ 58 rfl 3 65 Try.underlying3 Try.underlying58 (th_zero _) bm (M.look (M.entries s)) c rfl (HMB.out.below (B := W0.heap.size) (by repeat first | with_reducible assumption | with_reducible exact Below.refl _ _ | with_reducible apply Below.drew | with_reducible apply below_drewN | with_reducible apply Below.alloc (hB := (by first | omega | (simp; done) | (simp; omega))) | with_reducible apply Below.setCell (hp := (by first | omega | (simp; done) | (simp; omega)))) lm) id rfl HID.out ?_; rw [HQ.out, HOK.out]) | (go_at_call 30; refine (HSI.out _ (by repeat first | with_reducible assumption | with_reducible exact Below.refl _ _ | with_reducible apply Below.drew | with_reducible apply below_drewN | with_reducible apply Below.alloc (hB := (by first | omega | (simp; done) | (simp; omega))) | with_reducible apply Below.setCell (hp := (by first | omega | (simp; done) | (simp; omega))))).mono ?_; rintro e w22 ⟨rfl, hb22⟩; have G22 : Below W0.heap.size W0 w22 := (show Below W0.heap.size W0 _ from (by repeat first | with_reducible assumption | with_reducible exact Below.refl _ _ | with_reducible apply Below.drew | with_reducible apply below_drewN | with_reducible apply Below.alloc (hB := (by first | omega | (simp; done) | (simp; omega))) | with_reducible apply Below.setCell (hp := (by first | omega | (simp; done) | (simp; omega))))).trans (hb22.mono (by first | omega | (simp; done) | (simp; omega))); have gz22 := G22.size; obtain ⟨-, -, -, -, -, -, -, -, -, -, x10, x11⟩ := SB.out w22 G22; have LN := (HMB.out.below G22 lm).len Try.underlying58 3; clear hb22) | (go_at_call 21; refine (HQU.out _ (by repeat first | with_reducible assumption | with_reducible exact Below.refl _ _ | with_reducible apply Below.drew | with_reducible apply below_drewN | with_reducible apply Below.alloc (hB := (by first | omega | (simp; done) | (simp; omega))) | with_reducible apply Below.setCell (hp := (by first | omega | (simp; done) | (simp; omega))))).mono ?_; rintro e w23 ⟨v23, rfl, ho23, hb23⟩; have G23 : Below W0.heap.size W0 w23 := (show Below W0.heap.size W0 _ from (by repeat first | with_reducible assumption | with_reducible exact Below.refl _ _ | with_reducible apply Below.drew | with_reducible apply below_drewN | with_reducible apply Below.alloc (hB := (by first | omega | (simp; done) | (simp; omega))) | with_reducible apply Below.setCell (hp := (by first | omega | (simp; done) | (simp; omega))))).trans (hb23.mono (by first | omega | (simp; done) | (simp; omega))); have gz23 := G23.size; obtain ⟨a23, c23, rfl⟩ := own_form ho23; have HO23 := Lib.hid ho23; clear ho23 hb23) | (go_at_call 32; refine (HHA.out _ (by repeat first | with_reducible assumption | with_reducible exact Below.refl _ _ | with_reducible apply Below.drew | with_reducible apply below_drewN | with_reducible apply Below.alloc (hB := (by first | omega | (simp; done) | (simp; omega))) | with_reducible apply Below.setCell (hp := (by first | omega | (simp; done) | (simp; omega))))).mono ?_; rintro e w24 ⟨v24, zs, rfl, ho24, hs24, hn24, hi24, hb24⟩; rw [M.having_query HGS.out _ hs24 hn24 hi24] at ho24; have G24 : Below W0.heap.size W0 w24 := (show Below W0.heap.size W0 _ from (by repeat first | with_reducible assumption | with_reducible exact Below.refl _ _ | with_reducible apply Below.drew | with_reducible apply below_drewN | with_reducible apply Below.alloc (hB := (by first | omega | (simp; done) | (simp; omega))) | with_reducible apply Below.setCell (hp := (by first | omega | (simp; done) | (simp; omega))))).trans (hb24.mono (by first | omega | (simp; done) | (simp; omega))); have gz24 := G24.size; obtain ⟨a24, c24, rfl⟩ := own_form ho24; have HSD := Lib.hid (sameIds_calls (w := w24) (zs := M.query s (bits .and .i64 m 31)) (Lies.mono (Lies.of_owns (own_below HO23.out hb24)) (Nat.zero_le _)) (Lies.mono (Lies.of_owns ho24) (Nat.zero_le _))); clear ho24 hs24 hn24 hi24 hb24) | (go_at_call 31; refine HSD.out.mono ?_; rintro e w25 ⟨rfl, hb25⟩; have G25 : Below W0.heap.size W0 w25 := G24.trans (hb25.mono (by first | omega | (simp; done) | (simp; omega)))))
    go_ret
    exact ⟨rfl, HK0.out.trans (G25.mono k0)⟩
end Go.Proofs.Ytkpecagkpjabdab
