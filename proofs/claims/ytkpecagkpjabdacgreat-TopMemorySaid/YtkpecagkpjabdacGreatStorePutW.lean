/- The walk of store.put. Condition: an own store's tables, ascending by mask, few; a mask from 0 to 31. -/
import Derived.Test.YtkpecagkpjabdacGreatPutDraw
namespace Go.Proofs.YtkpecagkpjabdacGreat
open Go.RowKit
set_option linter.unusedVariables false
set_option linter.unusedSimpArgs false
set_option maxRecDepth 100000

/-- few tables, few things in each -/
def Few (ts : List M.Table) : Prop := ts.length ≤ 1000 ∧ ∀ t ∈ ts, t.ids.length ≤ 1000 ∧ t.rows.length ≤ 1000
/-- the table is there: what is left is to append -/
structure ReadyPut (base sb : Nat) (next : Int) (ts' : Int → M.Row → List M.Table) (m : Int) (i rb : Nat) (r : M.Row) (w W : World) (vt : Value) (ts : List M.Table) (hs : List (Value × Value)) (t : M.Table) : Prop where
  own : OwnTabs W base vt ts hs
  at_ : ts[i]? = some t
  law : ∀ id q, ts' id q = ts.set i ⟨m, t.ids ++ [id], t.rows ++ [q]⟩
  mask : t.mask = m
  few : ts.length ≤ 1001 ∧ t.ids.length ≤ 1000 ∧ t.rows.length ≤ 1000
  box : Blk W sb 31 #[vt, .int .i64 next]
  but : But base sb w W
  row : Blk W rb 23 (rowC r)
  far : rb ∉ blks vt hs
theorem cells_blk {w : World} {g : Nat} {t : TypeId} {cs : Array Value} (h : Blk w g t cs) (i : Nat) : w.cell? ⟨g, i, none⟩ = cs[i]? := h.cell i
theorem put_fin2 {base sb g0 cap0 i : Nat} {w wc W W' : World} {next m id : Int} {r : M.Row} {ts0 ts : List M.Table} {hs : List (Value × Value)} {p : Value × Value} {t : M.Table} {v5 v6 : Value} (hown : OwnTabs wc base (.slice (some ⟨g0, 0, none⟩) ts.length cap0) ts hs)
    (hat : ts[i]? = some t) (hp : hs[i]? = some p) (S : PutAt base wc p (t.ids ++ [id]) (t.rows ++ [r]) (some v5) (some v6) W) (hmask : t.mask = m) (hlaw : M.putT id m r ts0 = ts.set i ⟨m, t.ids ++ [id], t.rows ++ [r]⟩)
    (hbx : Blk wc sb 31 #[.slice (some ⟨g0, 0, none⟩) ts.length cap0, .int .i64 next]) (hsb : sb < base) (hbut : But base sb w wc)
    (hW : W' = (W.setCell ⟨g0, i * 3 + 1, none⟩ v5).setCell ⟨g0, i * 3 + 2, none⟩ v6 ∨ W' = (W.setCell ⟨g0, i * 3 + 2, none⟩ v6).setCell ⟨g0, i * 3 + 1, none⟩ v5) :
    ∃ vt', Blk W' sb 31 #[vt', .int .i64 next] ∧ (∃ hs', TabsAtH W' base vt' (M.putT id m r ts0) hs') ∧ But base sb w W' := by
  obtain ⟨vt', hs', f1, f2, f3⟩ := put_fin (next := next) hown hat hp S hmask hlaw hbx hsb hbut hW
  exact ⟨vt', f1, ⟨hs', f2⟩, f3⟩
set_option maxHeartbeats 60000000 in
set_option maxRecDepth 100000 in
/-- the last statement of put: both appends, in whatever order -/
theorem put_last {w wc : World} {base sb g0 cap0 i q1 q2 : Nat} {next : Int} {ts ts1 : List M.Table} {hs1 : List (Value × Value)} {t1 : M.Table} {a1 a2 : Option Addr} {id m : Int} {r : M.Row} {f : Bool} {i1 i2 : TypeInfo} (u11 u12 u13 u14 u15 u16 u17 u18 u19 u20 u21 u22 u23 u24 u25 u26 u27 u28 u29 u30 u31 u32 u33 u40 u41 u42 u43 u44 u45 u46 u47 u48 u49 u50 u51 u52 u53 u54 u55 u56 u57 u58 u59 : Value)
    (hsb : sb < base) (hbw : base ≤ w.heap.size) (hat : ts1[i]? = some t1) (hlaw : ∀ (id : Int) (q : M.Row), M.putT id m q ts = ts1.set i ⟨m, t1.ids ++ [id], t1.rows ++ [q]⟩) (hmask : t1.mask = m) (hbut : But base sb w wc)
    (hrow : Blk wc w.heap.size 23 (rowC r)) (hlt : i < ts1.length) (hlen : hs1.length = ts1.length) (hbx : Blk wc sb 31 #[.slice (some ⟨g0, 0, none⟩) ts1.length cap0, .int .i64 next]) (hg0 : base ≤ g0) (hg1 : g0 < wc.heap.size)
    (TF : ∀ j : Nat, wc.frozen? ⟨g0, j, none⟩ = false) (T1 : wc.cell? ⟨g0, i * 3 + 1, none⟩ = some (Value.slice a1 t1.ids.length q1)) (T2 : wc.cell? ⟨g0, i * 3 + 2, none⟩ = some (Value.slice a2 t1.rows.length q2))
    (e0 : wc.cell? ⟨sb, 0, none⟩ = some (.slice (some ⟨g0, 0, none⟩) ts1.length cap0)) (r0 : wc.cell? ⟨w.heap.size, 0, none⟩ = some (.int .i64 r.X)) (r1 : wc.cell? ⟨w.heap.size, 1, none⟩ = some (.int .i64 r.Y)) (r2 : wc.cell? ⟨w.heap.size, 2, none⟩ = some (.int .i64 r.PX)) (r3 : wc.cell? ⟨w.heap.size, 3, none⟩ = some (.int .i64 r.PY))
    (r4 : wc.cell? ⟨w.heap.size, 4, none⟩ = some (.int .i64 r.W)) (r5 : wc.cell? ⟨w.heap.size, 5, none⟩ = some (.int .i64 r.H)) (r6 : wc.cell? ⟨w.heap.size, 6, none⟩ = some (.int .i64 r.M)) (r7 : wc.cell? ⟨w.heap.size, 7, none⟩ = some (.int .i64 r.R))
    (hbase : base ≤ wc.heap.size) (hi1 : Tryz.prog.info? 3 = some i1) (hz10 : i1.zero = some (.int .i64 0)) (hz11 : i1.size = 1) (hz12 : i1.bytes = 8) (hi2 : Tryz.prog.info? 23 = some i2) (hz20 : i2.zero = some (rowV M.row0)) (hz21 : i2.size = 8) (hz22 : i2.bytes = 64)
    (S0 : PutAt base wc (Value.slice a1 t1.ids.length q1, Value.slice a2 t1.rows.length q2) (t1.ids ++ [id]) (t1.rows ++ [r]) none none wc) (HOWN : Hid (OwnTabs wc base (.slice (some ⟨g0, 0, none⟩) ts1.length cap0) ts1 hs1)) (HK : Hid (OwnTab wc base t1 (Value.slice a1 t1.ids.length q1, Value.slice a2 t1.rows.length q2))) (HP : Hid (hs1[i]? = some (Value.slice a1 t1.ids.length q1, Value.slice a2 t1.rows.length q2)))
    (HV : Hid ((Value.slice a1 t1.ids.length q1).ownBlock ≠ some g0 ∧ (Value.slice a2 t1.rows.length q2).ownBlock ≠ some g0)) (HNE : ∀ g, (Value.slice a1 t1.ids.length q1).ownBlock = some g → (Value.slice a2 t1.rows.length q2).ownBlock ≠ some g) (HOLD1 : ∀ g, (Value.slice a1 t1.ids.length q1).ownBlock = some g → g < wc.heap.size) (HOLD2 : ∀ g, (Value.slice a2 t1.rows.length q2).ownBlock = some g → g < wc.heap.size)
    (HA1 : ∀ g, wc.heap.size ≤ g → (Value.slice a1 t1.ids.length q1).ownBlock ≠ some g) (HA2 : ∀ g, wc.heap.size ≤ g → (Value.slice a2 t1.rows.length q2).ownBlock ≠ some g) (HFR : Hid ((Value.slice a1 t1.ids.length q1).ownBlock ≠ some w.heap.size ∧ (Value.slice a2 t1.rows.length q2).ownBlock ≠ some w.heap.size)) (hf1 : ts1.length ≤ 1001) (hf2 : t1.ids.length ≤ 1000) (hf3 : t1.rows.length ≤ 1000) (lrc : w.heap.size < wc.heap.size) :
    Code.wp Tryz.prog putLast (bodyPost Tryz.prog Tryz.f60 fun e w' => e = .returned (.tuple #[]) ∧ ∃ vt' hs', Blk w' sb 31 #[vt', .int .i64 next] ∧ TabsAtH w' base vt' (M.putT id m r ts) hs' ∧ But base sb w w') ⟨#[.pointer (some ⟨sb, 0, none⟩), .int .i64 id, .int .i64 m, rowV r, undef, undef, undef, .pointer (some ⟨w.heap.size, 0, none⟩), .int .i64 i, .bool f, .pointer (some ⟨g0, i * 3, none⟩), u11, u12, u13, u14, u15, u16, u17, u18, u19, u20, u21, u22, u23, u24, u25, u26, u27, u28, u29, u30, u31, u32, u33, .pointer (some ⟨sb, 0, none⟩), .pointer (some ⟨sb, 0, none⟩), .pointer (some ⟨sb, 0, none⟩), .slice (some ⟨g0, 0, none⟩) ts1.length cap0, .int .i64 i, .pointer (some ⟨g0, i * 3, none⟩), u40, u41, u42, u43, u44, u45, u46, u47, u48, u49, u50, u51, u52, u53, u54, u55, u56, u57, u58, u59], []⟩ wc := by
  rw [putLast_is]
  refine wp_region_any (by kernel_rfl) ?_
  rw [putOps_size]
  have z : ∀ k, (Array.replicate 22 false).getD k false = false := fun k => by
    by_cases hk : k < 22 <;> simp [Array.getD, hk]
  have no : ∀ {b : Bool} (q : Prop), b = false → b = true → q := fun q h1 h2 => by rw [h1] at h2; cases h2
  refine put_region (c := ⟨wc, base, g0, i, w.heap.size, id, r, t1, .slice a1 t1.ids.length q1, .slice a2 t1.rows.length q2⟩)
    ⟨hg1, lrc, hbase, TF, T1, T2, hrow, HK.out.ids, HK.out.rows, HV.out.1, HV.out.2, HFR.out.1, HFR.out.2, HNE, hf2, hf3⟩
    ⟨by simp, rfl, rfl, rfl, rfl, rfl, (fun k j _ hl => no _ (z k) hl), ⟨0, 0, undef, undef⟩, _, ⟨(fun k _ hl => no _ (z k) hl), ?_, (fun hl => no _ (z 7) hl), (fun hl => no _ (z 14) hl)⟩, .inl ⟨z 18, z 21, rfl⟩⟩ ?_
  · rw [z, z]
    exact PutAt.step S0 (show Below wc.heap.size wc wc.drew from (Below.refl _ wc).drew)
  · intro a' g W0 hd hp
    refine bodyPost_end (results_none rfl _ _ _) hd ?_
    obtain ⟨vt', f1, ⟨hs', f2⟩, f3⟩ := put_fin2 HOWN.out hat HP.out hp hmask (hlaw id r) hbx hsb hbut (.inl rfl)
    exact ⟨rfl, vt', hs', f1, f2, f3⟩
set_option maxHeartbeats 60000000 in
set_option maxRecDepth 100000 in
theorem put_calls {w : World} {base sb : Nat} {vt : Value} {next : Int} {ts : List M.Table} {hs : List (Value × Value)} (h : OwnTabs w base vt ts hs) (hbox : Blk w sb 31 #[vt, .int .i64 next]) (hsb : sb < base) (hbw : base ≤ w.heap.size)
    (hmk : Masks ts) (hfew : Few ts) (id m : Int) (r : M.Row) (hm : 0 ≤ m ∧ m ≤ 31) :
    Calls Tryz.prog 60 #[.pointer (some ⟨sb, 0, none⟩), .int .i64 id, .int .i64 m, rowV r] w fun e w' => e = .returned (.tuple #[]) ∧
      ∃ vt' hs', Blk w' sb 31 #[vt', .int .i64 next] ∧ TabsAtH w' base vt' (M.putT id m r ts) hs' ∧ But base sb w w' := by
  have HO := Lib.hid h
  have HS := Lib.hid (fun W (hb : Below w.heap.size w W) => search_calls (h.tabs.below hb) hmk m hm (by have := hfew.1; omega))
  obtain ⟨av, cv, rfl⟩ := own_form h.row
  have HFW := Lib.hid hfew
  have HBX := Lib.hid hbox
  have lsb : sb < w.heap.size := by omega
  have c0 : w.cell? ⟨sb, 0, none⟩ = some (.slice av ts.length cv) := hbox.cell 0
  have c1 : w.cell? ⟨sb, 1, none⟩ = some (.int .i64 next) := hbox.cell 1
  have cf := fun i => hbox.free i
  clear h hmk hfew hbox
  go_enter Tryz.func60, Tryz.ntmps60
  go_wp2_with fail
  refine (HS.out _ (by repeat first | with_reducible assumption | with_reducible exact Below.refl _ _ | with_reducible apply Below.drew | with_reducible apply below_drewN | with_reducible apply Below.alloc (hB := (by first | omega | (simp; done) | (simp; omega))) | with_reducible apply Below.setCell (hp := (by first | omega | (simp; done) | (simp; omega))))).mono ?_
  rintro e w1 ⟨i, f, rfl, hst, hf, hb1⟩
  have HB1 : Hid (Below w.heap.size w w1) := Lib.hid ((show Below w.heap.size w _ from (by repeat first | with_reducible assumption | with_reducible exact Below.refl _ _ | with_reducible apply Below.drew | with_reducible apply below_drewN | with_reducible apply Below.alloc (hB := (by first | omega | (simp; done) | (simp; omega))) | with_reducible apply Below.setCell (hp := (by first | omega | (simp; done) | (simp; omega))))).trans (hb1.mono (by simp)))
  have d0 := below_cell c0 HB1.out
  have d1 := below_cell c1 HB1.out
  have df := fun i => (HB1.out.frozen (p := ⟨sb, i, none⟩) lsb).trans (cf i)
  have HST := Lib.hid hst
  have HF := Lib.hid hf
  have hz1 := HB1.out.size
  have hil := hst.1
  have HRB : Hid (Blk w1 w.heap.size 23 (rowC r)) := Lib.hid ((Blk.new w 23 (rowC r)).below hb1 (by simp))
  have lr := HRB.out.lt
  clear hst hf hb1 c0 c1 cf
  go_upto_if 21 with fail
  go_cut [] (fun W => ∃ vt1 ts1 hs1 t1, ReadyPut base sb next (fun id q => M.putT id m q ts) m i w.heap.size r w W vt1 ts1 hs1 t1)
  case first =>
    cases f
    · have hne := fun hx => (show ¬ (∃ t, ts[i]? = some t ∧ t.mask = m) from fun hx2 => by have := HF.out.2 hx2; simp at this) hx
      go_wp2_with fail
      have hown1 : (w1.alloc (.cells #[.int .i64 m, .slice none 0 0, .slice none 0 0] 80)).ownsRow base 80 3 (.slice av ts.length cv) ts.length (tabL ts hs) := (own_below HO.out.row HB1.out).alloc _
      have hvb : (Value.slice av ts.length cv).ownBlock ≠ some w1.heap.size := fun e => by have := (HO.out.row.lt _ e).2; omega
      refine (insert_calls (i := i) (news := [.int .i64 m, .slice none 0 0, .slice none 0 0]) hown1 (by have := HFW.out.1; omega) hil (by simp; omega) rfl (heap_alloc_new w1 _) hvb (by
        intro u hu
        simp only [List.mem_cons, List.not_mem_nil, or_false] at hu
        rcases hu with rfl | rfl | rfl <;> rfl) HO.out.one).mono ?_
      rintro e w2 ⟨v', rfl, hin⟩
      have hgr := hin.2.1
      have hloc := hin.2.2
      have hz2 := hgr.size
      simp only [World.size_alloc] at hz2 hloc
      have HN : Hid (OwnTabs w2 base v' (ts.take i ++ ⟨m, [], []⟩ :: ts.drop i) (hs.take i ++ nilP :: hs.drop i)) := Lib.hid (own_insert HO.out hil (HB1.out.alloc (by omega) _) hin)
      obtain ⟨av2, cv2, rfl⟩ := own_form hin.1
      have far : ∀ g, g < w.heap.size + 1 → (g < base ∨ w.heap.size ≤ g) → w2.heap[g]? = w1.heap[g]? := fun g h1 h2 => by
        rw [hgr.block g (by simp; omega) (fun e => by have := HO.out.row.lt g e.symm; omega)]
        exact heap_alloc_old w1 _ (by omega)
      have hbx2 : Blk w2 sb 31 #[.slice av ts.length cv, .int .i64 next] := (far sb (by omega) (.inl hsb)).trans (HBX.out.below HB1.out lsb)
      have e0 : w2.cell? ⟨sb, 0, none⟩ = some (.slice av ts.length cv) := hbx2.cell 0
      have e1 : w2.cell? ⟨sb, 1, none⟩ = some (.int .i64 next) := hbx2.cell 1
      have ef := fun i => hbx2.free i
      have HBX2 := Lib.hid hbx2
      have HBUT : Hid (But base sb w w2) := Lib.hid (((But.of_below HB1.out hbw).alloc (by omega) _).grown hgr (by simp; omega) (fun g hg => (HO.out.row.lt g hg).1))
      have HR2 : Hid (Blk w2 w.heap.size 23 (rowC r)) := Lib.hid ((far w.heap.size (by omega) (.inr (Nat.le_refl _))).trans HRB.out)
      have HLOC := Lib.hid hloc
      clear d0 d1 df hown1 hin hgr hloc far hbx2
      go_wp2_with fail
      go_meet
      refine ⟨_, _, _, ⟨m, [], []⟩, ⟨HN.out.same (Nat.le_refl _) (fun g h1 h2 => Below.heap_setCell _ _ _ _ (by simp; omega)), get_middle _ _ _ _ (by simp; omega), fun id q => ?_, rfl, ⟨by have := HFW.out.1; simp; omega, by simp, by simp⟩,
        HBX2.out.put 0 _, HBUT.out.setCell (.inr rfl) _, HR2.out.far (by simp; omega) _, fun hm => ?_⟩⟩
      · simp only [List.nil_append]
        rw [putT_new HST.out hne, set_middle _ _ _ _ _ (by simp; omega)]
      · rcases mem_blks hm with e | ⟨p, hp, e⟩
        · rcases HLOC.out with k | ⟨nb, k, k2⟩
          · rw [k] at e
            have := (HO.out.row.lt _ e).2
            omega
          · rw [k] at e
            simp only [Option.some.injEq] at e
            omega
        · have hp2 : p ∈ hs ∨ p = nilP := by
            rcases List.mem_append.1 hp with hp | hp
            · exact .inl (List.mem_of_mem_take hp)
            · rcases List.mem_cons.1 hp with hp | hp
              · exact .inr hp
              · exact .inl (List.mem_of_mem_drop hp)
          rcases hp2 with hp2 | rfl
          · have hmb : w.heap.size ∈ blks (.slice av ts.length cv) hs := by
              unfold blks
              refine List.mem_filterMap.2 ?_
              rcases e with e | e
              · exact ⟨p.1, List.mem_cons_of_mem _ (List.mem_flatMap.2 ⟨p, hp2, by simp⟩), e⟩
              · exact ⟨p.2, List.mem_cons_of_mem _ (List.mem_flatMap.2 ⟨p, hp2, by simp⟩), e⟩
            have := (HO.out.blk hmb).2
            omega
          · rcases e with e | e <;> simp [nilP, Value.ownBlock] at e
    · go_wp2_with fail
      go_meet
      obtain ⟨t, ht, hmt⟩ := HF.out.1 (by first | rfl | trivial)
      have hfw := HFW.out.2 t (List.mem_of_getElem? ht)
      refine ⟨_, ts, hs, t, ⟨HO.out.same (Nat.le_refl _) (fun g h1 h2 => HB1.out.block g h2), ht, fun id q => putT_found HST.out ht hmt id q, hmt, ⟨by have := HFW.out.1; omega, hfw.1, hfw.2⟩, HBX.out.below HB1.out lsb, But.of_below HB1.out hbw, HRB.out, fun hm => ?_⟩⟩
      have := (HO.out.blk hm).2
      omega
  case rest =>
    obtain ⟨vt1, ts1, hs1, t1, ⟨hown, hat, hlaw, hmask, hfw, hbx, hbut, hrow, hfar⟩⟩ := hcut
    clear d0 d1 df HRB
    have hlt := (List.getElem?_eq_some_iff.1 hat).1
    have hlen := hown.len
    obtain ⟨⟨v1, v2⟩, hp⟩ : ∃ p, hs1[i]? = some p := ⟨_, List.getElem?_eq_getElem (by omega)⟩
    have hk := hown.each i t1 (v1, v2) hat hp
    obtain ⟨g0, cap0, rfl, hg0, hg1⟩ := own_val hown.row (by omega)
    obtain ⟨x0, x1, x2⟩ := tabL_at ts1 hs1 i hat hp
    have T1 := (hown.row.cellAt (i * 3 + 1) (by omega)).trans x1
    have T2 := (hown.row.cellAt (i * 3 + 2) (by omega)).trans x2
    have TF := fun j => hown.row.frozenAt j
    obtain ⟨a1, q1, rfl⟩ : ∃ a c, v1 = .slice a t1.ids.length c := own_form hk.ids
    obtain ⟨a2, q2, rfl⟩ : ∃ a c, v2 = .slice a t1.rows.length c := own_form hk.rows
    have e0 : wc.cell? ⟨sb, 0, none⟩ = some (.slice (some ⟨g0, 0, none⟩) ts1.length cap0) := hbx.cell 0
    obtain ⟨r0, r1, r2, r3, r4, r5, r6, r7⟩ := row_at hrow
    have hbase : base ≤ wc.heap.size := by have := hbut.size; omega
    obtain ⟨i1, hi1, hz10, hz11, hz12⟩ := info_parts infoInt
    obtain ⟨i2, hi2, hz20, hz21, hz22⟩ := info_parts infoRow
    have S0 := PutAt.start base wc (.slice a1 t1.ids.length q1, .slice a2 t1.rows.length q2) (t1.ids ++ [id]) (t1.rows ++ [r])
    have HOWN := Lib.hid hown
    have HK := Lib.hid hk
    have HP := Lib.hid hp
    have HV : Hid ((Value.slice a1 t1.ids.length q1).ownBlock ≠ some g0 ∧ (Value.slice a2 t1.rows.length q2).ownBlock ≠ some g0) := Lib.hid (blks_vt hown.apart rfl (List.mem_of_getElem? hp))
    have HNE : ∀ g, (Value.slice a1 t1.ids.length q1).ownBlock = some g → (Value.slice a2 t1.rows.length q2).ownBlock ≠ some g := fun g hg => blks_pair hown.apart hp hg
    have HOLD1 : ∀ g, (Value.slice a1 t1.ids.length q1).ownBlock = some g → g < wc.heap.size := fun g hg => (hk.ids.lt g hg).2
    have HOLD2 : ∀ g, (Value.slice a2 t1.rows.length q2).ownBlock = some g → g < wc.heap.size := fun g hg => (hk.rows.lt g hg).2
    have HA1 : ∀ g, wc.heap.size ≤ g → (Value.slice a1 t1.ids.length q1).ownBlock ≠ some g := fun g hg e => by have := HOLD1 g e; omega
    have HA2 : ∀ g, wc.heap.size ≤ g → (Value.slice a2 t1.rows.length q2).ownBlock ≠ some g := fun g hg e => by have := HOLD2 g e; omega
    have HFR : Hid ((Value.slice a1 t1.ids.length q1).ownBlock ≠ some w.heap.size ∧ (Value.slice a2 t1.rows.length q2).ownBlock ≠ some w.heap.size) := Lib.hid
      ⟨fun e => hfar (List.mem_filterMap.2 ⟨_, List.mem_cons_of_mem _ (List.mem_flatMap.2 ⟨_, List.mem_of_getElem? hp, by simp⟩), e⟩), fun e => hfar (List.mem_filterMap.2 ⟨_, List.mem_cons_of_mem _ (List.mem_flatMap.2 ⟨_, List.mem_of_getElem? hp, by simp⟩), e⟩)⟩
    have hf1 := hfw.1
    have hf2 := hfw.2.1
    have hf3 := hfw.2.2
    have lrc := hrow.lt
    clear hown hk hp x0 x1 x2 hfar hfw
    go_upto_region 5 with fail
    exact put_last _ _ _ _ _ _ _ _ _ _ _ _ _ _ _ _ _ _ _ _ _ _ _ _ _ _ _ _ _ _ _ _ _ _ _ _ _ _ _ _ _ _ _ hsb hbw hat hlaw hmask hbut hrow hlt hlen hbx hg0 hg1 TF T1 T2 e0 r0 r1 r2 r3 r4 r5 r6 r7 hbase hi1 hz10 hz11 hz12 hi2 hz20 hz21 hz22 S0 HOWN HK HP HV HNE HOLD1 HOLD2 HA1 HA2 HFR hf1 hf2 hf3 lrc
end Go.Proofs.YtkpecagkpjabdacGreat
