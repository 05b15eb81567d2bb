/- package table: New, Room, Open, End. -/
import Derived.Test.YtklelheejopfmaaLive
namespace Go.Proofs.Ytklelheejopfmaa
open Go Go.RowKit Go.Maps
attribute [local go_sem] Oper.semAt_some
set_option maxRecDepth 100000 in
theorem table_Room (w : World) (bt tb : Nat) (most : Int) (L : List Ent) (hT : TabAt w bt tb most L) :
    Calls Try.prog 44 #[.pointer (some ⟨bt, 0, none⟩)] w fun e w' => e = .returned (.int .i64 (most - (liveK L).length)) ∧ Below w.heap.size w w' := by
  have HT := Lib.hid hT
  have hl := numK_len L
  have h1 := hT.2.2.1
  have h2 := hT.2.2.2
  have hw : IntKind.i64.wrap (most - ((liveK L).length : Int)) = most - ((liveK L).length : Int) := by rw [IntKind.wrap_i64]; omega
  clear hT hl h1 h2
  go_enter Try.func44, Try.ntmps44
  go_wp2_with (go_at_call 42; refine (table_none _ _ _ _ _ HT.out).mono ?_; rintro e w' ⟨rfl, rfl⟩)
  refine wp_region_plan2 (fun W => TabAt W bt tb most L ∧ Below w.heap.size w W) 7 [(0, true), (1, true), (2, true), (3, true), (4, true), (5, false), (6, true)] (by kernel_rfl) (by kernel_rfl) (fun _ _ d _ _ h => by cases d <;> exact h) (by decide) (by simp only [List.map_cons, List.map_nil, Array.getD_eq_getD_getElem?, List.getElem?_toArray, List.getElem?_cons_zero, List.getElem?_cons_succ, Option.getD_some]; rfl) (by simp only [List.map_cons, List.map_nil]; rfl) (⟨HT.out.later (Below.refl _ _).drew, (Below.refl _ _).drew⟩) (fun PE hPE => ?_)
  refine plan_take (v := ?_) rfl (by rfl) ?_ ?_
  rotate_left
  · intro _ hSw; (try dsimp only at hSw); have c0 := hSw.1.1.cell 0; go_simp; (try with_reducible rfl)
  simp only [List.setIfInBounds_toArray, List.set_cons_zero, List.set_cons_succ]
  refine plan_take (v := ?_) rfl (by rfl) ?_ ?_
  rotate_left
  · intro _ hSw; (try dsimp only at hSw); have c0 := hSw.1.1.cell 0; go_simp; (try with_reducible rfl)
  simp only [List.setIfInBounds_toArray, List.set_cons_zero, List.set_cons_succ]
  refine plan_take (v := ?_) rfl (by rfl) ?_ ?_
  rotate_left
  · intro _ hSw; (try dsimp only at hSw); have c0 := hSw.1.1.cell 0; go_simp; (try with_reducible rfl)
  simp only [List.setIfInBounds_toArray, List.set_cons_zero, List.set_cons_succ]
  refine plan_take (v := ?_) rfl (by rfl) ?_ ?_
  rotate_left
  · intro _ hSw; (try dsimp only at hSw); have c0 := hSw.1.1.cell 0; go_simp; (try with_reducible rfl)
  simp only [List.setIfInBounds_toArray, List.set_cons_zero, List.set_cons_succ]
  refine plan_take (v := ?_) rfl (by rfl) ?_ ?_
  rotate_left
  · intro _ hSw; (try dsimp only at hSw); have c0 := hSw.1.1.cell 0; go_simp; (try with_reducible rfl)
  simp only [List.setIfInBounds_toArray, List.set_cons_zero, List.set_cons_succ]
  refine plan_call rfl (by rfl) (by first | (go_simp; done) | (go_simp; rfl)) (table_Live _ bt tb most L (HT.out.later (Below.refl _ _).drew)) ?_
  rintro e w4 ⟨v, rfl, ho, hb⟩
  obtain ⟨A, c, rfl, _⟩ := own_sl ho
  have hb2 := below_undrew hb
  refine ⟨_, rfl, ⟨HT.out.later hb2, hb2⟩, ?_⟩
  have HB := Lib.hid hb2
  clear ho hb hb2
  simp only [List.setIfInBounds_toArray, List.set_cons_zero, List.set_cons_succ]
  refine plan_take (v := ?_) rfl (by rfl) ?_ ?_
  rotate_left
  · intro _ hSw; (try dsimp only at hSw); go_simp; (try with_reducible rfl)
  simp only [List.setIfInBounds_toArray, List.set_cons_zero, List.set_cons_succ]
  (refine hPE _ _ ?_; simp only [List.drop_succ_cons, List.drop_zero]; clear hPE PE)
  go_wp2
  go_ret
  exact ⟨rfl, HB.out⟩
set_option maxRecDepth 100000 in
theorem table_Open_full (w : World) (bt tb : Nat) (most : Int) (L : List Ent) (hT : TabAt w bt tb most L) (hf : most - (liveK L).length = 0 ∨ L.length = 2147483647) :
    Calls Try.prog 36 #[.pointer (some ⟨bt, 0, none⟩)] w fun e w' => e = .returned (.tuple #[.int .i64 0, .int .i64 15]) ∧ Below w.heap.size w w' := by
  have HT := Lib.hid hT
  obtain ⟨r, hr⟩ : ∃ r, most - ((liveK L).length : Int) = r := ⟨_, rfl⟩
  have CR := Lib.hid (table_Room w bt tb most L hT)
  rw [hr] at CR hf
  by_cases h0 : r = 0
  · have hb : (r == 0) = true := beq_iff_eq.2 h0
    clear hT hf hr h0
    go_enter Try.func36, Try.ntmps36
    go_wp2_with (first
      | (go_at_call 42; refine (table_none _ _ _ _ _ HT.out).mono ?_; rintro e w' ⟨rfl, rfl⟩)
      | (go_at_call 44; refine CR.out.mono ?_; rintro e w1 ⟨rfl, hb1⟩; have HB := Lib.hid hb1; clear hb1))
    go_returns
    exact ⟨rfl, HB.out⟩
  · have hb : (r == 0) = false := beq_eq_false_iff_ne.2 h0
    have hl : L.length = 2147483647 := hf.resolve_left h0
    have hl2 : ((L.length : Int) == 2147483647) = true := by rw [beq_iff_eq]; omega
    clear hT hf hr h0 hl
    go_enter Try.func36, Try.ntmps36
    go_wp2_with (first
      | (go_at_call 42; refine (table_none _ _ _ _ _ HT.out).mono ?_; rintro e w' ⟨rfl, rfl⟩)
      | (go_at_call 44; refine CR.out.mono ?_; rintro e w1 ⟨rfl, hb1⟩; have HB := Lib.hid hb1; have x1 := (HT.out.later hb1).1.cell 1; clear hb1))
    go_returns
    exact ⟨rfl, HB.out⟩
theorem put_T (L : List Ent) (k : Kn) : (numD gT L).put (.int .i64 ((L.length : Int) + 1)) (.held (entV 0)) = numD gT (L ++ [(0, k)]) := numD_add L (0, k) (entV 0) rfl
set_option maxRecDepth 100000 in
theorem table_Open_ok (w : World) (bt tb : Nat) (most : Int) (L : List Ent) (hT : TabAt w bt tb most L) (hf : most - (liveK L).length ≠ 0) (hl : L.length ≠ 2147483647) (k : Kn) :
    Calls Try.prog 36 #[.pointer (some ⟨bt, 0, none⟩)] w fun e w' => e = .returned (.tuple #[.int .i64 ((L.length : Int) + 1), .int .i64 0]) ∧ TabAt w' bt tb most (L ++ [(0, k)]) ∧ Only [bt, tb] w w' := by
  have HT := Lib.hid hT
  obtain ⟨r, hr⟩ : ∃ r, most - ((liveK L).length : Int) = r := ⟨_, rfl⟩
  have CR := Lib.hid (table_Room w bt tb most L hT)
  rw [hr] at CR hf
  have hb : (r == 0) = false := beq_eq_false_iff_ne.2 hf
  have hl2 : ((L.length : Int) == 2147483647) = false := by rw [beq_eq_false_iff_ne]; omega
  have hw : IntKind.i64.wrap ((L.length : Int) + 1) = (L.length : Int) + 1 := by have := hT.2.2.1; rw [IntKind.wrap_i64]; omega
  have HK := Lib.hid (key_int ((L.length : Int) + 1) (by have := hT.2.2.1; exact WalkArith.wf_i64 (by omega)))
  have HL := Lib.hid (show L.length + 1 ≤ 2147483647 by have := hT.2.2.1; omega)
  have HP := Lib.hid (put_T L k)
  clear hT hf hr hl
  go_enter Try.func36, Try.ntmps36
  go_wp2_with (first
    | (go_at_call 42; refine (table_none _ _ _ _ _ HT.out).mono ?_; rintro e w' ⟨rfl, rfl⟩)
    | (go_at_call 44; refine CR.out.mono ?_; rintro e w1 ⟨rfl, hb1⟩; have HB := Lib.hid hb1; have HT1 := Lib.hid (HT.out.later hb1); have x1 := HT1.out.1.cell 1; have f1 := HT1.out.1.frozen 1; have HS := Lib.hid (show Blk (w1.setCell ⟨bt, 1, none⟩ (.int .i64 ((L.length : Int) + 1))) bt 83 #[.int .i64 most, .int .i64 ((L.length : Int) + 1), .map (some tb)] ∧ (w1.setCell ⟨bt, 1, none⟩ (.int .i64 ((L.length : Int) + 1))).ownsMap Try.prog 3 heldR tb L.length (numD gT L) ∧ Only [bt, tb] w (w1.setCell ⟨bt, 1, none⟩ (.int .i64 ((L.length : Int) + 1))) from ⟨HT1.out.1.set_ 1 _, HT1.out.2.1.setCell (own_ne_blk HT1.out.2.1 HT1.out.1) _, (Only.of_below hb1).set (.inl (by simp)) _⟩); clear hb1))
  refine wp_region_plan2 (fun W => Blk W bt 83 #[.int .i64 most, .int .i64 ((L.length : Int) + 1), .map (some tb)] ∧ W.ownsMap Try.prog 3 heldR tb L.length (numD gT L) ∧ Only [bt, tb] w W) 9 [(0, true), (1, true), (2, true), (3, true), (4, true), (5, true), (6, true), (7, true), (8, true)] (by kernel_rfl) (by kernel_rfl) (fun _ _ d _ _ h => by cases d <;> exact h) (by decide) (by simp only [List.map_cons, List.map_nil, Array.getD_eq_getD_getElem?, List.getElem?_toArray, List.getElem?_cons_zero, List.getElem?_cons_succ, Option.getD_some]; rfl) (by simp only [List.map_cons, List.map_nil]; rfl) (⟨HS.out.1, HS.out.2.1, HS.out.2.2.trans (Only.of_below (Below.refl _ _).drew)⟩) (fun PE hPE => ?_)
  refine plan_take (v := ?_) rfl (by rfl) ?_ ?_
  rotate_left
  · intro _ hSw; (try dsimp only at hSw); have c1 := hSw.1.cell 1; have c2 := hSw.1.cell 2; go_simp; (try with_reducible rfl)
  simp only [List.setIfInBounds_toArray, List.set_cons_zero, List.set_cons_succ]
  refine plan_take (v := ?_) rfl (by rfl) ?_ ?_
  rotate_left
  · intro _ hSw; (try dsimp only at hSw); have c1 := hSw.1.cell 1; have c2 := hSw.1.cell 2; go_simp; (try with_reducible rfl)
  simp only [List.setIfInBounds_toArray, List.set_cons_zero, List.set_cons_succ]
  refine plan_take (v := ?_) rfl (by rfl) ?_ ?_
  rotate_left
  · intro _ hSw; (try dsimp only at hSw); have c1 := hSw.1.cell 1; have c2 := hSw.1.cell 2; go_simp; (try with_reducible rfl)
  simp only [List.setIfInBounds_toArray, List.set_cons_zero, List.set_cons_succ]
  refine plan_take (v := ?_) rfl (by rfl) ?_ ?_
  rotate_left
  · intro _ hSw; (try dsimp only at hSw); have c1 := hSw.1.cell 1; have c2 := hSw.1.cell 2; go_simp; (try with_reducible rfl)
  simp only [List.setIfInBounds_toArray, List.set_cons_zero, List.set_cons_succ]
  refine plan_take (v := ?_) rfl (by rfl) ?_ ?_
  rotate_left
  · intro _ hSw; (try dsimp only at hSw); have c1 := hSw.1.cell 1; have c2 := hSw.1.cell 2; go_simp; (try with_reducible rfl)
  simp only [List.setIfInBounds_toArray, List.set_cons_zero, List.set_cons_succ]
  refine plan_take (v := ?_) rfl (by rfl) ?_ ?_
  rotate_left
  · intro _ hSw; (try dsimp only at hSw); have c1 := hSw.1.cell 1; have c2 := hSw.1.cell 2; go_simp; (try with_reducible rfl)
  simp only [List.setIfInBounds_toArray, List.set_cons_zero, List.set_cons_succ]
  refine plan_take (v := ?_) rfl (by rfl) ?_ ?_
  rotate_left
  · intro _ hSw; (try dsimp only at hSw); have c1 := hSw.1.cell 1; have c2 := hSw.1.cell 2; go_simp; (try with_reducible rfl)
  simp only [List.setIfInBounds_toArray, List.set_cons_zero, List.set_cons_succ]
  refine plan_take (v := ?_) rfl (by rfl) ?_ ?_
  rotate_left
  · intro _ hSw; (try dsimp only at hSw); have c1 := hSw.1.cell 1; have c2 := hSw.1.cell 2; go_simp; (try with_reducible rfl)
  simp only [List.setIfInBounds_toArray, List.set_cons_zero, List.set_cons_succ]
  refine plan_take (v := ?_) rfl (by rfl) ?_ ?_
  rotate_left
  · intro _ hSw; (try dsimp only at hSw); have c1 := hSw.1.cell 1; have c2 := hSw.1.cell 2; go_simp; (try with_reducible rfl)
  simp only [List.setIfInBounds_toArray, List.set_cons_zero, List.set_cons_succ]
  (refine hPE _ _ ?_; simp only [List.drop_succ_cons, List.drop_zero]; clear hPE PE)
  have HS2 := Lib.hid (show Blk (w1.setCell ⟨bt, 1, none⟩ (.int .i64 ((L.length : Int) + 1))).drew bt 83 #[.int .i64 most, .int .i64 ((L.length : Int) + 1), .map (some tb)] ∧ (w1.setCell ⟨bt, 1, none⟩ (.int .i64 ((L.length : Int) + 1))).drew.ownsMap Try.prog 3 heldR tb L.length (numD gT L) ∧ Only [bt, tb] w (w1.setCell ⟨bt, 1, none⟩ (.int .i64 ((L.length : Int) + 1))).drew from ⟨HS.out.1, HS.out.2.1, HS.out.2.2.trans (Only.of_below (Below.refl _ _).drew)⟩)
  generalize (w1.setCell ⟨bt, 1, none⟩ (.int .i64 ((L.length : Int) + 1))).drew = W2 at HS2 ⊢
  go_wp2_with (at_mapUpdate; refine wpList_mapUpdate_in _ rfl _ _ _ 81 rfl 3 85 keyed_int Try.underlying81 heldR tb L.length _ rfl HS2.out.2.1 (by have := HL.out; unfold maxLen; omega) (.int .i64 ((L.length : Int) + 1)) (entV 0) (.int .i64 ((L.length : Int) + 1)) rfl rfl HK.out (.held (entV 0)) [] rfl ?_; intro w5 hown5 hturn5; rw [HP.out] at hown5; have hb5 := blk_turned HS2.out.1 hturn5; have x51 := hb5.cell 1; have HB5 := Lib.hid hb5; have HO5 := Lib.hid hown5; have HU5 := Lib.hid hturn5; clear hb5 hown5 hturn5)
  go_returns
  have hlen : (L ++ [(0, k)]).length = L.length + 1 := by simp
  exact ⟨rfl, ⟨by rw [hlen]; exact HB5.out, by rw [hlen]; exact HO5.out, by rw [hlen]; exact HL.out, HT1.out.2.2.2⟩, HS2.out.2.2.turned HU5.out (by simp)⟩
def endF (L : List Ent) (id c : Int) : Int × List Ent := if c = 0 then (2, L) else match atL L id with
  | none => (18, L)
  | some x => if x.1 = 0 then (0, L.set (id - 1).toNat (c, x.2)) else (19, L)
theorem set_T {L : List Ent} {id : Int} {x : Ent} (h : atL L id = some x) (y : Ent) : (numD gT L).put (.int .i64 id) (.held (entV y.1)) = numD gT (L.set (id - 1).toNat y) := by
  obtain ⟨h1, h2⟩ := atL_wf h
  have h3 := numD_set (g := gT) L (id - 1).toNat y (entV y.1) (by omega) rfl
  have e : (((id - 1).toNat : Nat) : Int) + 1 = id := by omega
  rwa [e] at h3
set_option maxRecDepth 100000 in
theorem table_End_no (w : World) (bt tb : Nat) (most : Int) (L : List Ent) (hT : TabAt w bt tb most L) (id c : Int) (hw : (Lit.int .i64 id).wf = true) (r : Int) (hr : r ≠ 0) (hE : endF L id c = (r, L)) :
    Calls Try.prog 41 #[.pointer (some ⟨bt, 0, none⟩), .int .i64 id, .int .i64 c] w fun e w' => e = .returned (.int .i64 r) ∧ Below w.heap.size w w' := by
  have HT := Lib.hid hT
  have HB0 := Lib.hid (Below.refl w.heap.size w)
  unfold endF at hE
  by_cases hc : c = 0
  · rw [if_pos hc] at hE
    have hr2 : r = 2 := (congrArg Prod.fst hE).symm
    subst hr2 hc
    clear hT hE hw
    go_enter Try.func41, Try.ntmps41
    go_wp2_with (go_at_call 42; refine (table_none _ _ _ _ _ HT.out).mono ?_; rintro e w' ⟨rfl, rfl⟩)
    go_returns
    exact ⟨rfl, HB0.out⟩
  rw [if_neg hc] at hE
  have hcb : (c == 0) = false := beq_eq_false_iff_ne.2 hc
  have CC := Lib.hid (table_Cause w bt tb most L hT id hw)
  unfold causeF at CC
  cases ha : atL L id with
  | none =>
    rw [ha] at hE CC
    dsimp only at hE CC
    have hr2 : r = 18 := (congrArg Prod.fst hE).symm
    subst hr2
    clear hT hE hw hc ha
    go_enter Try.func41, Try.ntmps41
    go_wp2_with (first
      | (go_at_call 42; refine (table_none _ _ _ _ _ HT.out).mono ?_; rintro e w' ⟨rfl, rfl⟩)
      | (go_at_call 39; refine CC.out.mono ?_; rintro e w1 ⟨rfl, hb1⟩; have HB1 := Lib.hid hb1; clear hb1))
    go_returns
    exact ⟨rfl, HB1.out⟩
  | some x =>
    rw [ha] at hE CC
    obtain ⟨d, k⟩ := x
    dsimp only at hE CC
    by_cases hd : d = 0
    · rw [if_pos hd] at hE
      exact absurd (congrArg Prod.fst hE).symm hr
    rw [if_neg hd] at hE
    have hr2 : r = 19 := (congrArg Prod.fst hE).symm
    subst hr2
    have hdb : (d != 0) = true := bne_iff_ne.2 hd
    clear hT hE hw hc ha hd
    go_enter Try.func41, Try.ntmps41
    go_wp2_with (first
      | (go_at_call 42; refine (table_none _ _ _ _ _ HT.out).mono ?_; rintro e w' ⟨rfl, rfl⟩)
      | (go_at_call 39; refine CC.out.mono ?_; rintro e w1 ⟨rfl, hb1⟩; have HB1 := Lib.hid hb1; clear hb1))
    go_returns
    exact ⟨rfl, HB1.out⟩
set_option maxRecDepth 100000 in
theorem table_End_ok (w : World) (bt tb : Nat) (most : Int) (L : List Ent) (hT : TabAt w bt tb most L) (id c : Int) (hw : (Lit.int .i64 id).wf = true) (hc : c ≠ 0) (k : Kn) (ha : atL L id = some (0, k)) :
    Calls Try.prog 41 #[.pointer (some ⟨bt, 0, none⟩), .int .i64 id, .int .i64 c] w fun e w' => e = .returned (.int .i64 0) ∧ TabAt w' bt tb most (L.set (id - 1).toNat (c, k)) ∧ Only [tb] w w' := by
  have HT := Lib.hid hT
  have hcb : (c == 0) = false := beq_eq_false_iff_ne.2 hc
  have CC := Lib.hid (table_Cause w bt tb most L hT id hw)
  unfold causeF at CC
  rw [ha] at CC
  dsimp only at CC
  have HK := Lib.hid (key_int id hw)
  have HP := Lib.hid (set_T ha (c, k))
  have HLT := Lib.hid (show (id - 1).toNat < L.length by have := atL_wf ha; omega)
  clear hT hw hc ha
  go_enter Try.func41, Try.ntmps41
  go_wp2_with (first
    | (go_at_call 42; refine (table_none _ _ _ _ _ HT.out).mono ?_; rintro e w' ⟨rfl, rfl⟩)
    | (go_at_call 39; refine CC.out.mono ?_; rintro e w1 ⟨rfl, hb1⟩; have HB1 := Lib.hid hb1; have HT1 := Lib.hid (HT.out.later hb1); have x2 := HT1.out.1.cell 2; clear hb1)
    | (at_mapUpdate; refine wpList_mapUpdate_in _ rfl _ _ _ 81 rfl 3 85 keyed_int Try.underlying81 heldR tb L.length _ rfl HT1.out.2.1 (by have := HT1.out.2.2.1; unfold maxLen; omega) (.int .i64 id) (entV c) (.int .i64 id) rfl rfl HK.out (.held (entV c)) [] rfl ?_; intro w5 hown5 hturn5; rw [HP.out] at hown5; have hb5 := blk_turned HT1.out.1 hturn5; have HB5 := Lib.hid hb5; have HO5 := Lib.hid (own_tight hown5); have HU5 := Lib.hid hturn5; clear hb5 hown5 hturn5))
  go_returns
  have hlen : (L.set (id - 1).toNat (c, k)).length = L.length := by simp
  have h1 := HO5.out
  rw [size_T] at h1
  exact ⟨rfl, ⟨by rw [hlen]; exact HB5.out, h1, by rw [hlen]; exact HT1.out.2.2.1, HT1.out.2.2.2⟩, (Only.of_below HB1.out).turned HU5.out (by simp)⟩
set_option maxRecDepth 100000 in
theorem table_New_ok (w : World) (most : Int) (h1 : 1 ≤ most) (h2 : most ≤ 64) :
    Calls Try.prog 35 #[.int .i64 most] w fun e w' => e = .returned (.tuple #[.pointer (some ⟨w.heap.size + 1, 0, none⟩), .int .i64 0]) ∧ TabAt w' (w.heap.size + 1) w.heap.size most [] ∧ Below w.heap.size w w' := by
  have h3 : ¬ most < 1 := by omega
  have h4 : ¬ 64 < most := by omega
  have HM := Lib.hid (And.intro h1 h2)
  have hmk : ∀ W : World, (Instr.makeMap 81 none).run Try.prog W = .ok (.map (some W.heap.size)) (W.alloc (.map #[] 0)) := fun W => run_makeMap _ W
  clear h1 h2
  go_enter Try.func35, Try.ntmps35
  go_wp2
  go_returns
  refine ⟨rfl, ⟨(Blk.new _ _ _).at_eq (by simp), ?_, by simp, HM.out⟩, ((Below.refl _ _).alloc (Nat.le_refl _) _).alloc (by simp) _⟩
  exact (World.ownsMap_made w Try.prog 3 heldR).alloc _
set_option maxRecDepth 100000 in
theorem table_New_no (w : World) (most : Int) (h : ¬ (1 ≤ most ∧ most ≤ 64)) :
    Calls Try.prog 35 #[.int .i64 most] w fun e w' => e = .returned (.tuple #[.pointer none, .int .i64 3]) ∧ w = w' := by
  by_cases h3 : most < 1
  · clear h
    go_enter Try.func35, Try.ntmps35
    go_wp2
    go_returns
    exact ⟨rfl, rfl⟩
  · have h4 : 64 < most := by omega
    clear h
    go_enter Try.func35, Try.ntmps35
    go_wp2
    go_returns
    exact ⟨rfl, rfl⟩
end Go.Proofs.Ytklelheejopfmaa
