/- The walk of SweepOrder. Condition: the boxes lie in memory, their numbers are of 64 bits, and they are at most 1048576. -/
import Derived.Test.YtkpecagkpjabdabSweeps
import Derived.Test.YtkpecagkpjabdabSwapDraw
import Derived.Test.YtkpecagkpjabdabPick
import Derived.Deep.DeepCutAuto
namespace Go.Proofs.Ytkpecagkpjabdab
open Go.RowKit
set_option linter.unusedVariables false
set_option linter.unusedSimpArgs false
set_option maxRecDepth 100000

theorem cons_of {α : Type} {l : List α} {n : Nat} (h : l.length = n + 1) : ∃ a l', l = a :: l' ∧ l'.length = n := by
  match l, h with
  | a :: l', h => exact ⟨a, l', rfl, by simpa using h⟩
theorem frame61 {x : Array Value} (h : x.size = 61) : ∃ u0 u1 u2 u3 u4 u5 u6 u7 u8 u9 u10 u11 u12 u13 u14 u15 u16 u17 u18 u19 u20 u21 u22 u23 u24 u25 u26 u27 u28 u29 u30 u31 u32 u33 u34 u35 u36 u37 u38 u39 u40 u41 u42 u43 u44 u45 u46 u47 u48 u49 u50 u51 u52 u53 u54 u55 u56 u57 u58 u59 u60, x = #[u0, u1, u2, u3, u4, u5, u6, u7, u8, u9, u10, u11, u12, u13, u14, u15, u16, u17, u18, u19, u20, u21, u22, u23, u24, u25, u26, u27, u28, u29, u30, u31, u32, u33, u34, u35, u36, u37, u38, u39, u40, u41, u42, u43, u44, u45, u46, u47, u48, u49, u50, u51, u52, u53, u54, u55, u56, u57, u58, u59, u60] := by
  obtain ⟨l⟩ := x
  have h : l.length = 61 := by simpa using h
  obtain ⟨u0, l1, rfl, h1⟩ := cons_of (n := 60) h
  obtain ⟨u1, l2, rfl, h2⟩ := cons_of (n := 59) h1
  obtain ⟨u2, l3, rfl, h3⟩ := cons_of (n := 58) h2
  obtain ⟨u3, l4, rfl, h4⟩ := cons_of (n := 57) h3
  obtain ⟨u4, l5, rfl, h5⟩ := cons_of (n := 56) h4
  obtain ⟨u5, l6, rfl, h6⟩ := cons_of (n := 55) h5
  obtain ⟨u6, l7, rfl, h7⟩ := cons_of (n := 54) h6
  obtain ⟨u7, l8, rfl, h8⟩ := cons_of (n := 53) h7
  obtain ⟨u8, l9, rfl, h9⟩ := cons_of (n := 52) h8
  obtain ⟨u9, l10, rfl, h10⟩ := cons_of (n := 51) h9
  obtain ⟨u10, l11, rfl, h11⟩ := cons_of (n := 50) h10
  obtain ⟨u11, l12, rfl, h12⟩ := cons_of (n := 49) h11
  obtain ⟨u12, l13, rfl, h13⟩ := cons_of (n := 48) h12
  obtain ⟨u13, l14, rfl, h14⟩ := cons_of (n := 47) h13
  obtain ⟨u14, l15, rfl, h15⟩ := cons_of (n := 46) h14
  obtain ⟨u15, l16, rfl, h16⟩ := cons_of (n := 45) h15
  obtain ⟨u16, l17, rfl, h17⟩ := cons_of (n := 44) h16
  obtain ⟨u17, l18, rfl, h18⟩ := cons_of (n := 43) h17
  obtain ⟨u18, l19, rfl, h19⟩ := cons_of (n := 42) h18
  obtain ⟨u19, l20, rfl, h20⟩ := cons_of (n := 41) h19
  obtain ⟨u20, l21, rfl, h21⟩ := cons_of (n := 40) h20
  obtain ⟨u21, l22, rfl, h22⟩ := cons_of (n := 39) h21
  obtain ⟨u22, l23, rfl, h23⟩ := cons_of (n := 38) h22
  obtain ⟨u23, l24, rfl, h24⟩ := cons_of (n := 37) h23
  obtain ⟨u24, l25, rfl, h25⟩ := cons_of (n := 36) h24
  obtain ⟨u25, l26, rfl, h26⟩ := cons_of (n := 35) h25
  obtain ⟨u26, l27, rfl, h27⟩ := cons_of (n := 34) h26
  obtain ⟨u27, l28, rfl, h28⟩ := cons_of (n := 33) h27
  obtain ⟨u28, l29, rfl, h29⟩ := cons_of (n := 32) h28
  obtain ⟨u29, l30, rfl, h30⟩ := cons_of (n := 31) h29
  obtain ⟨u30, l31, rfl, h31⟩ := cons_of (n := 30) h30
  obtain ⟨u31, l32, rfl, h32⟩ := cons_of (n := 29) h31
  obtain ⟨u32, l33, rfl, h33⟩ := cons_of (n := 28) h32
  obtain ⟨u33, l34, rfl, h34⟩ := cons_of (n := 27) h33
  obtain ⟨u34, l35, rfl, h35⟩ := cons_of (n := 26) h34
  obtain ⟨u35, l36, rfl, h36⟩ := cons_of (n := 25) h35
  obtain ⟨u36, l37, rfl, h37⟩ := cons_of (n := 24) h36
  obtain ⟨u37, l38, rfl, h38⟩ := cons_of (n := 23) h37
  obtain ⟨u38, l39, rfl, h39⟩ := cons_of (n := 22) h38
  obtain ⟨u39, l40, rfl, h40⟩ := cons_of (n := 21) h39
  obtain ⟨u40, l41, rfl, h41⟩ := cons_of (n := 20) h40
  obtain ⟨u41, l42, rfl, h42⟩ := cons_of (n := 19) h41
  obtain ⟨u42, l43, rfl, h43⟩ := cons_of (n := 18) h42
  obtain ⟨u43, l44, rfl, h44⟩ := cons_of (n := 17) h43
  obtain ⟨u44, l45, rfl, h45⟩ := cons_of (n := 16) h44
  obtain ⟨u45, l46, rfl, h46⟩ := cons_of (n := 15) h45
  obtain ⟨u46, l47, rfl, h47⟩ := cons_of (n := 14) h46
  obtain ⟨u47, l48, rfl, h48⟩ := cons_of (n := 13) h47
  obtain ⟨u48, l49, rfl, h49⟩ := cons_of (n := 12) h48
  obtain ⟨u49, l50, rfl, h50⟩ := cons_of (n := 11) h49
  obtain ⟨u50, l51, rfl, h51⟩ := cons_of (n := 10) h50
  obtain ⟨u51, l52, rfl, h52⟩ := cons_of (n := 9) h51
  obtain ⟨u52, l53, rfl, h53⟩ := cons_of (n := 8) h52
  obtain ⟨u53, l54, rfl, h54⟩ := cons_of (n := 7) h53
  obtain ⟨u54, l55, rfl, h55⟩ := cons_of (n := 6) h54
  obtain ⟨u55, l56, rfl, h56⟩ := cons_of (n := 5) h55
  obtain ⟨u56, l57, rfl, h57⟩ := cons_of (n := 4) h56
  obtain ⟨u57, l58, rfl, h58⟩ := cons_of (n := 3) h57
  obtain ⟨u58, l59, rfl, h59⟩ := cons_of (n := 2) h58
  obtain ⟨u59, l60, rfl, h60⟩ := cons_of (n := 1) h59
  obtain ⟨u60, l61, rfl, h61⟩ := cons_of (n := 0) h60
  obtain rfl := List.length_eq_zero_iff.1 h61
  exact ⟨u0, u1, u2, u3, u4, u5, u6, u7, u8, u9, u10, u11, u12, u13, u14, u15, u16, u17, u18, u19, u20, u21, u22, u23, u24, u25, u26, u27, u28, u29, u30, u31, u32, u33, u34, u35, u36, u37, u38, u39, u40, u41, u42, u43, u44, u45, u46, u47, u48, u49, u50, u51, u52, u53, u54, u55, u56, u57, u58, u59, u60, rfl⟩
theorem swap_perm {l : List M.Box} {K : Nat} {A B : M.Box} (hA : l[K]? = some A) (hB : l[K + 1]? = some B) : ((l.set K B).set (K + 1) A).Perm l := by
  obtain ⟨h1, rfl⟩ := List.getElem?_eq_some_iff.1 hA
  obtain ⟨h2, rfl⟩ := List.getElem?_eq_some_iff.1 hB
  exact List.set_set_perm h1 h2
theorem pair_neq_same (a : M.Pr) (w : World) : (binOp .neq 48 (pairV a) (pairV a)).run Try.prog w = .ok (.bool false) w := by
  have hS : Try.prog.underlying 48 = some (.struct (Try.prog.fieldsOf 48)) := by kernel_rfl
  have hp : Try.prog.stoodInHeld 48 = false := by kernel_rfl
  obtain ⟨a0, a1⟩ := a
  rw [run_neq_struct, show (10000 : Nat) = 9999 + 1 from rfl, run_equalIn_agg w 9999 48 _ _ hS hp]
  simp only [Program.fieldsOf, Try.underlying48]
  go_simp

set_option maxHeartbeats 8000000 in
set_option maxRecDepth 100000 in
theorem sweepOrder_walk (l : List M.Box) (k : Int) (w : World) {v : Value} (hw0 : BoxesAt5 w 0 v l ∧ (∀ b ∈ l, BoxIn b) ∧ CapOk v) (hk : I64 k) (hn : l.length ≤ 1048576) :
    Calls Try.prog 5 #[v, .int .i64 k] w fun e w' => e = .returned (.bool true) ∧ Below w.heap.size w w' := by
  obtain ⟨h, hin, hcap⟩ := hw0
  by_cases hlt : l.length < 2
  · obtain ⟨av, cv, rfl⟩ := h.val
    have q : decide ((l.length : Int) < 2) = true := decide_eq_true (by omega)
    go_enter Try.func5, Try.ntmps5
    go_wp2_with (go_at_call 18; refine (sweeps_calls _).mono ?_; rintro e w1 ⟨rfl, hb1⟩)
    go_ret
    exact ⟨rfl, hb1⟩
  · have q : decide ((l.length : Int) < 2) = false := decide_eq_false (by omega)
    obtain ⟨K, hK, hK1⟩ : ∃ K : Nat, k % ((l.length : Int) - 1) = (K : Int) ∧ K + 1 < l.length := by
      have h1 := Int.emod_nonneg k (show ((l.length : Int) - 1) ≠ 0 by omega)
      have h2 := Int.emod_lt_of_pos k (show 0 < ((l.length : Int) - 1) by omega)
      exact ⟨(k % ((l.length : Int) - 1)).toNat, by omega, by omega⟩
    obtain ⟨A, hA⟩ : ∃ A, l[K]? = some A := ⟨_, List.getElem?_eq_getElem (by omega)⟩
    obtain ⟨B, hB⟩ : ∃ B, l[K + 1]? = some B := ⟨_, List.getElem?_eq_getElem (by omega)⟩
    obtain ⟨bl, ol, cl, ev, _, _⟩ := h.at5 hA
    subst ev
    obtain ⟨_, _, _, ec, hc1, hc2⟩ := hcap
    simp only [Value.slice.injEq] at ec
    obtain ⟨rfl, rfl, rfl⟩ := ec
    have hc63 : cl ≤ 9223372036854775807 := by unfold maxLen at hc2; omega
    have hw1 : IntKind.i64.wrap ((l.length : Int) - 1) = (l.length : Int) - 1 := by rw [IntKind.wrap_i64]; omega
    have HB := Lib.hid h
    have hcells : ∀ j u, (l.flatMap boxL)[j]? = some u → w.cell? ((⟨bl, ol, none⟩ : Addr).add j) = some u := by
      intro j u hu
      obtain ⟨_, _, a, cap, e, h3⟩ := h
      obtain ⟨b, o, ea, _, hc⟩ := h3 (by intro e; rw [e] at hu; simp at hu)
      simp only [Value.slice.injEq] at e
      obtain ⟨rfl, _, _⟩ := e
      simp only [Option.some.injEq, Addr.mk.injEq, and_true] at ea
      obtain ⟨rfl, rfl⟩ := ea
      rw [Addr.add_lit]
      exact hc j u hu
    obtain ⟨i1, hi1, hz11, hz12, hz13⟩ := info_parts infoBox
    have HC := Lib.hid hcells
    have HIN := Lib.hid hin
    clear h hcells hin
    go_enter Try.func5, Try.ntmps5
    go_upto_region 5 with (first | (go_at_call 11; refine (pick_calls k ((l.length : Int) - 1) _ (by omega) (by omega) hk).mono ?_; rw [hK]; rintro e w1 ⟨rfl, rfl⟩) | (at_builtin; refine wpList_append_own_at _ rfl (.const (.slice none 0 0)) (.tmp 18) _ rfl w.heap.size 45 i1 _ 5 40 Try.underlying40 hi1 hz11 hz12 hz13 rfl (by omega) _ 0 [] rfl (World.ownsRow_nil _ _ _ _) ⟨bl, ol, none⟩ l.length cl (l.flatMap boxL) rfl (boxes_len l) HC.out (boxes_one l) (by unfold maxLen; omega) (by omega) (Nat.le_refl _) ?_; intro v1 w1 hown1 hg1 _ hat1; have K1 : Below w.heap.size w w1 := (Below.refl _ w).grown hg1 (Nat.le_refl _) (fun k hk => by cases hk)))
    rw [Nat.zero_add, List.nil_append] at hown1
    obtain ⟨gm, cm, rfl, hgm, hgm1⟩ := own_val hown1 (by omega)
    have hcm : l.length ≤ cm ∧ cm ≤ 9223372036854775807 := by
      rcases hown1.2 with ⟨e, _⟩ | ⟨g', cap', cur, e, _, _, hnc, hmx, _⟩
      · simp at e
      · simp only [Value.slice.injEq] at e
        obtain ⟨_, _, rfl⟩ := e
        unfold maxLen at hmx
        omega
    show Code.wp Try.prog swapC _ _ _
    rw [swapC_is]
    refine wp_region_any (by kernel_rfl) ?_
    rw [swapOps_size]
    have z : ∀ k, (Array.replicate 18 false).getD k false = false := fun k => by
      by_cases hk : k < 18 <;> simp [Array.getD, hk]
    have no : ∀ {b : Bool} (q : Prop), b = false → b = true → q := fun q h1 h2 => by rw [h1] at h2; cases h2
    refine swap_region (c := ⟨w, l, K, bl, ol, cl, gm, cm, A, B⟩) ⟨hA, hB, HB.out, by show l.length ≤ _; omega, ⟨hc1, hc63⟩, hcm⟩
      ⟨by simp, rfl, rfl, rfl, rfl, rfl, (fun k _ hl => no _ (z k) hl), K1.drew, (by
        have e : SC.cur ⟨w, l, K, bl, ol, cl, gm, cm, A, B⟩ (Array.replicate 18 false) = l := by unfold SC.cur; rw [z, z]; rfl
        rw [e]
        exact own_below hown1 (Below.refl _ w1).drew)⟩ ?_
    intro a' W' d' hI hcur
    have HP := swap_perm hA hB
    have hown2 := hI.own
    rw [hcur] at hown2
    have KW : Below w.heap.size w W' := hI.below
    have p0 := hI.p0
    have p1 := hI.p1
    have p5 := hI.p5
    have hdf := hI.defers
    have hsz := hI.len
    clear hI hcur hown1 hg1 hat1
    obtain ⟨tm, df⟩ := a'
    simp only at hsz hdf
    subst hdf
    obtain ⟨u0, u1, u2, u3, u4, u5, u6, u7, u8, u9, u10, u11, u12, u13, u14, u15, u16, u17, u18, u19, u20, u21, u22, u23, u24, u25, u26, u27, u28, u29, u30, u31, u32, u33, u34, u35, u36, u37, u38, u39, u40, u41, u42, u43, u44, u45, u46, u47, u48, u49, u50, u51, u52, u53, u54, u55, u56, u57, u58, u59, u60, rfl⟩ := frame61 hsz
    have p0 : u0 = .slice (some ⟨bl, ol, none⟩) l.length cl := p0
    have p5 : u5 = .slice (some ⟨gm, 0, none⟩) l.length cm := p5
    subst p0 p5
    clear p1 hsz
    have eP : M.pairs ((l.set K B).set (K + 1) A) = M.pairs l := M.pairs_perm HP
    obtain ⟨ps, hps⟩ : ∃ ps, ps = M.pairs l := ⟨_, rfl⟩
    obtain ⟨ml, hml⟩ : ∃ ml, ml = (l.set K B).set (K + 1) A := ⟨_, rfl⟩
    have hlen : ml.length = l.length := by rw [hml]; simp
    rw [← hml] at hown2 eP HP
    have hin2 : ∀ b ∈ ml, BoxIn b := fun b hb => HIN.out b (HP.mem_iff.1 hb)
    have HPA : Hid (∀ W (hb : Below w.heap.size w W), Calls Try.prog 19 #[.slice (some ⟨bl, ol, none⟩) l.length cl] W fun e w' => ∃ v', e = .returned v' ∧ w'.ownsRow W.heap.size 48 2 v' ps.length (ps.flatMap pairL) ∧ Below W.heap.size W w') := Lib.hid (fun W hb => by
      rw [hps]; exact pairs_calls (HB.out.below hb) HIN.out hn)
    have HPM : Hid (∀ W (hb : Below W'.heap.size W' W), Calls Try.prog 19 #[.slice (some ⟨gm, 0, none⟩) l.length cm] W fun e w' => ∃ v', e = .returned v' ∧ w'.ownsRow W.heap.size 48 2 v' ps.length (ps.flatMap pairL) ∧ Below W.heap.size W w') := Lib.hid (fun W hb => by
      rw [hps, ← eP]
      have hl : BoxesAt5 W w.heap.size (.slice (some ⟨gm, 0, none⟩) l.length cm) ml := by
        unfold BoxesAt5
        rw [hlen]
        exact Lies.of_owns (own_below hown2 hb)
      exact pairs_calls hl hin2 (by omega))
    have kW := KW.size
    have HKW := Lib.hid KW
    clear hown2 hps hml eP HP hlen hin2 KW z no
    show Exit.then _ _ .normal _ _
    simp only [Exit.then]
    go_at_K
    go_wp2_with (first | (go_at_call_of 19 bl; refine (HPA.out _ HKW.out).mono ?_; rintro e w2 ⟨v2, rfl, ho2, hb2⟩; obtain ⟨a2, c2, rfl⟩ := own_form ho2; have kz2 := hb2.size) | (go_at_call_of 19 gm; refine (HPM.out _ hb2).mono ?_; rintro e w3 ⟨v3, rfl, ho3, hb3⟩; obtain ⟨a3, c3, rfl⟩ := own_form ho3; have kz3 := hb3.size; have HPS2 : Hid (PairsAt w3 0 (.slice a2 ps.length c2) ps) := Lib.hid (Lies.below (Lies.mono (Lies.of_owns ho2) (Nat.zero_le _)) hb3); have HPS3 : Hid (PairsAt w3 0 (.slice a3 ps.length c3) ps) := Lib.hid (Lies.mono (Lies.of_owns ho3) (Nat.zero_le _)); have HK3 : Hid (Below w.heap.size w w3) := Lib.hid (HKW.out.trans ((hb2.trans (hb3.mono kz2)).mono kW)); clear ho2 ho3 hb2 hb3))
    have hpm : ps.length ≤ 9223372036854775807 := by have := HPS2.out.max; unfold maxLen at this; omega
    go_loopg [47] ps.length (fun g i wr => ∃ j : Nat, j ≤ ps.length ∧ i = .int .i64 j ∧ g = ps.length - j ∧ Below w3.heap.size w3 wr)
    case atStart => exact ⟨0, Nat.zero_le _, rfl, rfl, Below.refl _ _⟩
    case round =>
      obtain ⟨wo, hwo⟩ : ∃ wo, wo = wr := ⟨_, rfl⟩
      subst hwo
      obtain ⟨j, hj, rfl, hgj, hb⟩ := hrel
      have HBJ := Lib.hid hb
      have HGJ := Lib.hid hgj
      have ko := hb.size
      clear hgj
      rcases Nat.lt_or_ge j ps.length with hlt3 | hge3
      · obtain ⟨p, hp⟩ : ∃ p, ps[j]? = some p := ⟨_, List.getElem?_eq_getElem hlt3⟩
        obtain ⟨b3, o3, c3', e3, _, p0, p1⟩ := (HPS2.out.below hb).at2 hp
        obtain ⟨rfl, rfl⟩ : a2 = some ⟨b3, o3, none⟩ ∧ c2 = c3' := by simpa using e3
        obtain ⟨b4, o4, c4', e4, _, q0, q1⟩ := (HPS3.out.below hb).at2 hp
        obtain ⟨rfl, rfl⟩ : a3 = some ⟨b4, o4, none⟩ ∧ c3 = c4' := by simpa using e4
        have NX : ∀ w, (binOp .neq 48 (.agg #[.int .i64 p.1, .int .i64 p.2]) (.agg #[.int .i64 p.1, .int .i64 p.2])).run Try.prog w = .ok (.bool false) w := fun w => pair_neq_same p w
        clear e3 e4 hp hb
        go_wp2_with fail
        go_region
        all_goals
          go_wp2_with fail
          go_roundg (ps.length - (j + 1))
          case measure => rw [HGJ.out]; omega
          case rel => exact ⟨j + 1, by omega, by go_num, rfl, by first | exact HBJ.out | exact HBJ.out.drew⟩
      · obtain rfl : j = ps.length := by omega
        have q5 : decide ((ps.length : Int) < (ps.length : Int)) = false := decide_eq_false (by omega)
        go_wp2_with (go_at_call 18; refine (sweeps_calls _).mono ?_; rintro e w6 ⟨rfl, hb6⟩)
        go_ret
        exact ⟨rfl, HK3.out.trans ((HBJ.out.trans (hb6.mono ko)).mono (by have := HK3.out.size; omega))⟩
end Go.Proofs.Ytkpecagkpjabdab
