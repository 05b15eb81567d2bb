/- RdP, RdB, Stp, StpL, RdW, RunG, StpC -/
import Derived.Test.YtcojnigkgbmbmaaGreatDoorR25
import Derived.Deep.DeepCutAuto
import Derived.Test.YtcojnigkgbmbmaaGreatDoorR18
namespace Go.Proofs.YtcojnigkgbmbmaaGreatDoor
open Go Go.RowKit
attribute [local go_sem] Oper.semAt_some
set_option maxRecDepth 100000 in
set_option maxHeartbeats 4000000 in
theorem rd_partX (g b0 b1 b2 : Nat) (fr : Int) (A : Option Addr) (n c : Nat) (l : List UInt8) (s : RdS) (w : World) (hb : Blk w g 61 (rdC A n c s)) (h0 : Blk w b0 57 #[.pointer (some ⟨g, 0, none⟩)]) (h1 : Blk w b1 3 #[.int .i64 fr]) (h2 : Blk w b2 102 #[.pointer (some ⟨g, 10, none⟩)])
    (hA : Sl w A (l.map byteV)) (hn : l.length = n) (hsz : n ≤ 2 ^ 47) (hi : -9223372036854775808 ≤ s.a ∧ s.a ≤ 9223372036854775807) (hp : partB fr = true) (hd : (treeR vecC vecN l s.a).2.2 = 0 → -16 ≤ (treeR vecC vecN l s.a).1 ∧ (treeR vecC vecN l s.a).1 ≤ 15) (a2 : Int) (ha2 : IntKind.i64.wrap (s.a + (treeR vecC vecN l s.a).2.1) = a2) :
    Calls Tryz.prog 111 #[.pointer (some ⟨b0, 0, none⟩), .pointer (some ⟨b1, 0, none⟩), .pointer (some ⟨b2, 0, none⟩)] w fun e w' =>
      ((treeR vecC vecN l s.a).2.2 ≠ 0 ∧ e = .returned (.int .i64 (treeR vecC vecN l s.a).2.2) ∧ Blk w' g 61 (rdC A n c s) ∧ TurnG g w w') ∨
      ((treeR vecC vecN l s.a).2.2 = 0 ∧ e = .returned (.int .i64 (turnP fr (treeR vecC vecN l s.a).1).2) ∧ Blk w' g 61 (rdC A n c { s with a := a2, mx := (turnP fr (treeR vecC vecN l s.a).1).1 }) ∧ TurnG g w w') := by
  obtain ⟨a, ⟨t0, t1, t2, t3, t4⟩, ad, kd, qu, mx, my, pa, v, x, y⟩ := s
  dsimp only at hi ha2 hd ⊢
  have G := Lib.hid (fun W hW => vector_Get A n c l a W hW hn hsz hi)
  have CT := Lib.hid (fun h3 W => vector_Turn fr (treeR vecC vecN l a).1 W hp (hd h3).1 (hd h3).2)
  obtain ⟨⟨rk, rn, re⟩, hr⟩ : ∃ r, treeR vecC vecN l a = r := ⟨_, rfl⟩
  rw [hr] at G CT ha2 ⊢
  dsimp only at G CT ha2 ⊢
  obtain ⟨⟨tv, te⟩, ht⟩ : ∃ r, turnP fr rk = r := ⟨_, rfl⟩
  rw [ht] at CT ⊢
  dsimp only at CT ⊢
  unfold rdC at *
  dsimp only at *
  have hg0 : g ≠ b0 := blk_ne hb h0 (by simp)
  have hg1 : g ≠ b1 := blk_ne hb h1 (by simp)
  have hg2 : g ≠ b2 := blk_ne hb h2 (by simp)
  have hw : IntKind.i64.wrap (a + rn) = a2 := ha2
  have hbd : Blk w.drew g 61 _ := hb.drewN 1
  have hd0 : Blk w.drew b0 57 _ := h0.drewN 1
  have hd1 : Blk w.drew b1 3 _ := h1.drewN 1
  have hd2 : Blk w.drew b2 102 _ := h2.drewN 1
  have y0 := hbd.cell 0; have y1 := hbd.cell 1; have y2 := hd0.cell 0
  have HBd := Lib.hid hbd; have HD0 := Lib.hid hd0; have HD1 := Lib.hid hd1; have HD2 := Lib.hid hd2
  have HAd := Lib.hid (show Sl w.drew A (l.map byteV) from hA)
  have HG0 := Lib.hid hg0; have HG1 := Lib.hid hg1; have HG2 := Lib.hid hg2
  clear hb hA hr hi ha2 hbd hn hsz hd0 hd1 hd2 h0 h1 h2 hd hp ht hg0 hg1 hg2
  go_enter Tryz.func111, Tryz.ntmps111
  go_wp2_with fail
  refine wp_region_treeN (fun w' => w'.cell? ⟨g, 0, none⟩ = some (.slice A n c) ∧ w'.cell? ⟨g, 1, none⟩ = some (.int .i64 a) ∧ w'.cell? ⟨b0, 0, none⟩ = some (.pointer (some ⟨g, 0, none⟩))) 15 (.take 0 (.take 1 (.take 2 (.take 3 (.take 4 (.take 5 (.take 6 (.take 7 (.step 8 (.take 9 (.take 10 (.take 11 (.take 12 (.step 13 (.step 14 .done))))))))))))))) (by kernel_rfl) (by kernel_rfl) (by simp only [Pln.out, Array.getD_eq_getD_getElem?, List.getElem?_toArray, List.getElem?_cons_zero, List.getElem?_cons_succ, Option.getD_some]; rfl) (by simp only [List.map_cons, List.map_nil]; rfl) (⟨y0, y1, y2⟩) (fun PE hPE => ?_)
  iterate 8
    refine tree_take (v := ?_) rfl (by rfl) ?_ ?_
    rotate_left
    · intro _ hSw; (try dsimp only at hSw); obtain ⟨s0, s1, s2⟩ := hSw; go_simp; (try with_reducible rfl)
    simp only [List.setIfInBounds_toArray, List.set_cons_zero, List.set_cons_succ]
  refine tree_call (f := 112) rfl (by rfl) (by first | (go_simp; done) | (go_simp; rfl)) (G.out _ HAd.out) ?_
  rintro e w2 ⟨rfl, hb2⟩
  have hL2 := HBd.out.below hb2 HBd.out.lt
  have hM0 := HD0.out.below hb2 HD0.out.lt
  have hM1 := HD1.out.below hb2 HD1.out.lt
  have hM2 := HD2.out.below hb2 HD2.out.lt
  have HT2 := Lib.hid (turn_then (turn_drew (Turn.refl (fun k => k = g) w)) hb2)
  refine ⟨_, rfl, _, fun _ h => h, ⟨hL2.cell 0, hL2.cell 1, hM0.cell 0⟩, ?_⟩
  simp only [List.setIfInBounds_toArray, List.set_cons_zero, List.set_cons_succ]
  iterate 4
    refine tree_take (v := ?_) rfl (by rfl) ?_ ?_
    rotate_left
    · intro _ hSw; (try dsimp only at hSw); go_simp; (try with_reducible rfl)
    simp only [List.setIfInBounds_toArray, List.set_cons_zero, List.set_cons_succ]
  refine tree_value (v := ?_) (w' := ?_) rfl (by rfl) ?_ ?_ ?_
  rotate_left 2
  · go_simp; (try (constructor <;> with_reducible rfl))
  · exact ⟨hL2.cell 0, hL2.cell 1, hM0.cell 0⟩
  simp only [List.setIfInBounds_toArray, List.set_cons_zero, List.set_cons_succ]
  refine tree_value (v := ?_) (w' := ?_) rfl (by rfl) ?_ ?_ ?_
  rotate_left 2
  · go_simp; (try (constructor <;> with_reducible rfl))
  · exact ⟨hL2.cell 0, hL2.cell 1, hM0.cell 0⟩
  simp only [List.setIfInBounds_toArray, List.set_cons_zero, List.set_cons_succ]
  refine hPE _ _ ?_
  clear hPE PE
  simp only [List.drop_succ_cons, List.drop_zero, List.drop_nil]
  have HL2 := Lib.hid hL2; have HM0 := Lib.hid hM0; have HM1 := Lib.hid hM1; have HM2 := Lib.hid hM2
  clear hL2 hM0 hM1 hM2 hb2 y0 y1 y2 HBd HD0 HD1 HD2 HAd G
  go_wp2_with fail
  refine ⟨rfl, ?_⟩
  cases he : (re != 0) with
  | true =>
    have hne : re ≠ 0 := by simpa using he
    have HNE := Lib.hid hne
    clear hne
    go_wp2_with fail
    go_ret
    exact .inl ⟨HNE.out, rfl, HL2.out, HT2.out⟩
  | false =>
    have he0 : re = 0 := by simpa using he
    subst he0
    have CT := Lib.hid (CT.out rfl)
    have z2 := HM0.out.cell 0
    have c1 : w2.cell? ⟨g, 1, none⟩ = some (.int .i64 a) := by rw [HL2.out.cell]; rfl
    have f1 := HL2.out.frozen 1
    have hL3 := HL2.out.set_ 1 (.int .i64 a2)
    simp only [List.setIfInBounds_toArray, List.set_cons_zero, List.set_cons_succ] at hL3
    have hN1 : Blk (World.drew (w2.setCell ⟨g, 1, none⟩ (.int .i64 a2))) b1 3 _ := (HM1.out.far (p := ⟨g, 1, none⟩) HG1.out.symm (.int .i64 a2)).drewN 1
    have hN2 : Blk (World.drew (w2.setCell ⟨g, 1, none⟩ (.int .i64 a2))) b2 102 _ := (HM2.out.far (p := ⟨g, 1, none⟩) HG2.out.symm (.int .i64 a2)).drewN 1
    have HL3 := Lib.hid hL3
    have HN1 := Lib.hid hN1; have HN2 := Lib.hid hN2
    have HT3 := Lib.hid (turn_set HT2.out 1 (.int .i64 a2))
    have u1 := hN1.cell 0; have u2 := hN2.cell 0
    clear hL3 hN1 hN2
    go_upto_region 5 with fail
    clear z2 c1 f1
    refine wp_region_treeN (fun w' => w'.cell? ⟨b1, 0, none⟩ = some (.int .i64 fr) ∧ w'.cell? ⟨b2, 0, none⟩ = some (.pointer (some ⟨g, 10, none⟩))) 9 (.take 0 (.take 1 (.take 2 (.step 3 (.take 4 (.take 5 (.take 6 (.take 7 (.step 8 .done))))))))) (by kernel_rfl) (by kernel_rfl) (by simp only [Pln.out, Array.getD_eq_getD_getElem?, List.getElem?_toArray, List.getElem?_cons_zero, List.getElem?_cons_succ, Option.getD_some]; rfl) (by simp only [List.map_cons, List.map_nil]; rfl) (⟨u1, u2⟩) (fun PE hPE => ?_)
    iterate 3
      refine tree_take (v := ?_) rfl (by rfl) ?_ ?_
      rotate_left
      · intro _ hSw; (try dsimp only at hSw); obtain ⟨s1, s2⟩ := hSw; go_simp; (try with_reducible rfl)
      simp only [List.setIfInBounds_toArray, List.set_cons_zero, List.set_cons_succ]
    refine tree_call (f := 113) rfl (by rfl) (by first | (go_simp; done) | (go_simp; rfl)) (CT.out _) ?_
    rintro e w4 ⟨rfl, rfl⟩
    refine ⟨_, rfl, _, fun _ h => h, ⟨u1, u2⟩, ?_⟩
    simp only [List.setIfInBounds_toArray, List.set_cons_zero, List.set_cons_succ]
    iterate 4
      refine tree_take (v := ?_) rfl (by rfl) ?_ ?_
      rotate_left
      · intro _ hSw; (try dsimp only at hSw); go_simp; (try with_reducible rfl)
      simp only [List.setIfInBounds_toArray, List.set_cons_zero, List.set_cons_succ]
    have kk := HL3.out.cell 10; have fk := HL3.out.frozen 10
    have hL4 := HL3.out.set_ 10 (.int .i64 tv)
    simp only [List.setIfInBounds_toArray, List.set_cons_zero, List.set_cons_succ] at hL4
    have v1 := (HN1.out.far (p := ⟨g, 10, none⟩) HG1.out.symm (.int .i64 tv)).cell 0
    have v2 := (HN2.out.far (p := ⟨g, 10, none⟩) HG2.out.symm (.int .i64 tv)).cell 0
    refine tree_skip _ (w' := ?_) rfl (by rfl) ?_ ?_ ?_
    rotate_left 1
    · go_simp; (first | (with_reducible rfl) | (constructor <;> with_reducible rfl) | skip)
    · exact ⟨v1, v2⟩
    refine hPE _ _ ?_
    clear hPE PE
    simp only [List.drop_succ_cons, List.drop_zero, List.drop_nil]
    have hL5 : Blk (World.drew ((w2.setCell ⟨g, 1, none⟩ (.int .i64 a2)).setCell ⟨g, 10, none⟩ (.int .i64 tv))) g 61 _ := hL4.drewN 1
    have HT5 := Lib.hid (turn_drew (turn_set HT3.out 10 (.int .i64 tv)))
    clear v1 v2 kk fk u1 u2
    go_wp2_with fail
    refine ⟨rfl, ?_⟩
    go_wp2_with fail
    go_ret
    exact ⟨rfl, hL5, HT5.out⟩
set_option maxRecDepth 100000 in
set_option maxHeartbeats 4000000 in
theorem rd_partY (g b0 b1 b2 : Nat) (fr : Int) (A : Option Addr) (n c : Nat) (l : List UInt8) (s : RdS) (w : World) (hb : Blk w g 61 (rdC A n c s)) (h0 : Blk w b0 57 #[.pointer (some ⟨g, 0, none⟩)]) (h1 : Blk w b1 3 #[.int .i64 fr]) (h2 : Blk w b2 102 #[.pointer (some ⟨g, 11, none⟩)])
    (hA : Sl w A (l.map byteV)) (hn : l.length = n) (hsz : n ≤ 2 ^ 47) (hi : -9223372036854775808 ≤ s.a ∧ s.a ≤ 9223372036854775807) (hp : partB fr = true) (hd : (treeR vecC vecN l s.a).2.2 = 0 → -16 ≤ (treeR vecC vecN l s.a).1 ∧ (treeR vecC vecN l s.a).1 ≤ 15) (a2 : Int) (ha2 : IntKind.i64.wrap (s.a + (treeR vecC vecN l s.a).2.1) = a2) :
    Calls Tryz.prog 111 #[.pointer (some ⟨b0, 0, none⟩), .pointer (some ⟨b1, 0, none⟩), .pointer (some ⟨b2, 0, none⟩)] w fun e w' =>
      ((treeR vecC vecN l s.a).2.2 ≠ 0 ∧ e = .returned (.int .i64 (treeR vecC vecN l s.a).2.2) ∧ Blk w' g 61 (rdC A n c s) ∧ TurnG g w w') ∨
      ((treeR vecC vecN l s.a).2.2 = 0 ∧ e = .returned (.int .i64 (turnP fr (treeR vecC vecN l s.a).1).2) ∧ Blk w' g 61 (rdC A n c { s with a := a2, my := (turnP fr (treeR vecC vecN l s.a).1).1 }) ∧ TurnG g w w') := by
  obtain ⟨a, ⟨t0, t1, t2, t3, t4⟩, ad, kd, qu, mx, my, pa, v, x, y⟩ := s
  dsimp only at hi ha2 hd ⊢
  have G := Lib.hid (fun W hW => vector_Get A n c l a W hW hn hsz hi)
  have CT := Lib.hid (fun h3 W => vector_Turn fr (treeR vecC vecN l a).1 W hp (hd h3).1 (hd h3).2)
  obtain ⟨⟨rk, rn, re⟩, hr⟩ : ∃ r, treeR vecC vecN l a = r := ⟨_, rfl⟩
  rw [hr] at G CT ha2 ⊢
  dsimp only at G CT ha2 ⊢
  obtain ⟨⟨tv, te⟩, ht⟩ : ∃ r, turnP fr rk = r := ⟨_, rfl⟩
  rw [ht] at CT ⊢
  dsimp only at CT ⊢
  unfold rdC at *
  dsimp only at *
  have hg0 : g ≠ b0 := blk_ne hb h0 (by simp)
  have hg1 : g ≠ b1 := blk_ne hb h1 (by simp)
  have hg2 : g ≠ b2 := blk_ne hb h2 (by simp)
  have hw : IntKind.i64.wrap (a + rn) = a2 := ha2
  have hbd : Blk w.drew g 61 _ := hb.drewN 1
  have hd0 : Blk w.drew b0 57 _ := h0.drewN 1
  have hd1 : Blk w.drew b1 3 _ := h1.drewN 1
  have hd2 : Blk w.drew b2 102 _ := h2.drewN 1
  have y0 := hbd.cell 0; have y1 := hbd.cell 1; have y2 := hd0.cell 0
  have HBd := Lib.hid hbd; have HD0 := Lib.hid hd0; have HD1 := Lib.hid hd1; have HD2 := Lib.hid hd2
  have HAd := Lib.hid (show Sl w.drew A (l.map byteV) from hA)
  have HG0 := Lib.hid hg0; have HG1 := Lib.hid hg1; have HG2 := Lib.hid hg2
  clear hb hA hr hi ha2 hbd hn hsz hd0 hd1 hd2 h0 h1 h2 hd hp ht hg0 hg1 hg2
  go_enter Tryz.func111, Tryz.ntmps111
  go_wp2_with fail
  refine wp_region_treeN (fun w' => w'.cell? ⟨g, 0, none⟩ = some (.slice A n c) ∧ w'.cell? ⟨g, 1, none⟩ = some (.int .i64 a) ∧ w'.cell? ⟨b0, 0, none⟩ = some (.pointer (some ⟨g, 0, none⟩))) 15 (.take 0 (.take 1 (.take 2 (.take 3 (.take 4 (.take 5 (.take 6 (.take 7 (.step 8 (.take 9 (.take 10 (.take 11 (.take 12 (.step 13 (.step 14 .done))))))))))))))) (by kernel_rfl) (by kernel_rfl) (by simp only [Pln.out, Array.getD_eq_getD_getElem?, List.getElem?_toArray, List.getElem?_cons_zero, List.getElem?_cons_succ, Option.getD_some]; rfl) (by simp only [List.map_cons, List.map_nil]; rfl) (⟨y0, y1, y2⟩) (fun PE hPE => ?_)
  iterate 8
    refine tree_take (v := ?_) rfl (by rfl) ?_ ?_
    rotate_left
    · intro _ hSw; (try dsimp only at hSw); obtain ⟨s0, s1, s2⟩ := hSw; go_simp; (try with_reducible rfl)
    simp only [List.setIfInBounds_toArray, List.set_cons_zero, List.set_cons_succ]
  refine tree_call (f := 112) rfl (by rfl) (by first | (go_simp; done) | (go_simp; rfl)) (G.out _ HAd.out) ?_
  rintro e w2 ⟨rfl, hb2⟩
  have hL2 := HBd.out.below hb2 HBd.out.lt
  have hM0 := HD0.out.below hb2 HD0.out.lt
  have hM1 := HD1.out.below hb2 HD1.out.lt
  have hM2 := HD2.out.below hb2 HD2.out.lt
  have HT2 := Lib.hid (turn_then (turn_drew (Turn.refl (fun k => k = g) w)) hb2)
  refine ⟨_, rfl, _, fun _ h => h, ⟨hL2.cell 0, hL2.cell 1, hM0.cell 0⟩, ?_⟩
  simp only [List.setIfInBounds_toArray, List.set_cons_zero, List.set_cons_succ]
  iterate 4
    refine tree_take (v := ?_) rfl (by rfl) ?_ ?_
    rotate_left
    · intro _ hSw; (try dsimp only at hSw); go_simp; (try with_reducible rfl)
    simp only [List.setIfInBounds_toArray, List.set_cons_zero, List.set_cons_succ]
  refine tree_value (v := ?_) (w' := ?_) rfl (by rfl) ?_ ?_ ?_
  rotate_left 2
  · go_simp; (try (constructor <;> with_reducible rfl))
  · exact ⟨hL2.cell 0, hL2.cell 1, hM0.cell 0⟩
  simp only [List.setIfInBounds_toArray, List.set_cons_zero, List.set_cons_succ]
  refine tree_value (v := ?_) (w' := ?_) rfl (by rfl) ?_ ?_ ?_
  rotate_left 2
  · go_simp; (try (constructor <;> with_reducible rfl))
  · exact ⟨hL2.cell 0, hL2.cell 1, hM0.cell 0⟩
  simp only [List.setIfInBounds_toArray, List.set_cons_zero, List.set_cons_succ]
  refine hPE _ _ ?_
  clear hPE PE
  simp only [List.drop_succ_cons, List.drop_zero, List.drop_nil]
  have HL2 := Lib.hid hL2; have HM0 := Lib.hid hM0; have HM1 := Lib.hid hM1; have HM2 := Lib.hid hM2
  clear hL2 hM0 hM1 hM2 hb2 y0 y1 y2 HBd HD0 HD1 HD2 HAd G
  go_wp2_with fail
  refine ⟨rfl, ?_⟩
  cases he : (re != 0) with
  | true =>
    have hne : re ≠ 0 := by simpa using he
    have HNE := Lib.hid hne
    clear hne
    go_wp2_with fail
    go_ret
    exact .inl ⟨HNE.out, rfl, HL2.out, HT2.out⟩
  | false =>
    have he0 : re = 0 := by simpa using he
    subst he0
    have CT := Lib.hid (CT.out rfl)
    have z2 := HM0.out.cell 0
    have c1 : w2.cell? ⟨g, 1, none⟩ = some (.int .i64 a) := by rw [HL2.out.cell]; rfl
    have f1 := HL2.out.frozen 1
    have hL3 := HL2.out.set_ 1 (.int .i64 a2)
    simp only [List.setIfInBounds_toArray, List.set_cons_zero, List.set_cons_succ] at hL3
    have hN1 : Blk (World.drew (w2.setCell ⟨g, 1, none⟩ (.int .i64 a2))) b1 3 _ := (HM1.out.far (p := ⟨g, 1, none⟩) HG1.out.symm (.int .i64 a2)).drewN 1
    have hN2 : Blk (World.drew (w2.setCell ⟨g, 1, none⟩ (.int .i64 a2))) b2 102 _ := (HM2.out.far (p := ⟨g, 1, none⟩) HG2.out.symm (.int .i64 a2)).drewN 1
    have HL3 := Lib.hid hL3
    have HN1 := Lib.hid hN1; have HN2 := Lib.hid hN2
    have HT3 := Lib.hid (turn_set HT2.out 1 (.int .i64 a2))
    have u1 := hN1.cell 0; have u2 := hN2.cell 0
    clear hL3 hN1 hN2
    go_upto_region 5 with fail
    clear z2 c1 f1
    refine wp_region_treeN (fun w' => w'.cell? ⟨b1, 0, none⟩ = some (.int .i64 fr) ∧ w'.cell? ⟨b2, 0, none⟩ = some (.pointer (some ⟨g, 11, none⟩))) 9 (.take 0 (.take 1 (.take 2 (.step 3 (.take 4 (.take 5 (.take 6 (.take 7 (.step 8 .done))))))))) (by kernel_rfl) (by kernel_rfl) (by simp only [Pln.out, Array.getD_eq_getD_getElem?, List.getElem?_toArray, List.getElem?_cons_zero, List.getElem?_cons_succ, Option.getD_some]; rfl) (by simp only [List.map_cons, List.map_nil]; rfl) (⟨u1, u2⟩) (fun PE hPE => ?_)
    iterate 3
      refine tree_take (v := ?_) rfl (by rfl) ?_ ?_
      rotate_left
      · intro _ hSw; (try dsimp only at hSw); obtain ⟨s1, s2⟩ := hSw; go_simp; (try with_reducible rfl)
      simp only [List.setIfInBounds_toArray, List.set_cons_zero, List.set_cons_succ]
    refine tree_call (f := 113) rfl (by rfl) (by first | (go_simp; done) | (go_simp; rfl)) (CT.out _) ?_
    rintro e w4 ⟨rfl, rfl⟩
    refine ⟨_, rfl, _, fun _ h => h, ⟨u1, u2⟩, ?_⟩
    simp only [List.setIfInBounds_toArray, List.set_cons_zero, List.set_cons_succ]
    iterate 4
      refine tree_take (v := ?_) rfl (by rfl) ?_ ?_
      rotate_left
      · intro _ hSw; (try dsimp only at hSw); go_simp; (try with_reducible rfl)
      simp only [List.setIfInBounds_toArray, List.set_cons_zero, List.set_cons_succ]
    have kk := HL3.out.cell 11; have fk := HL3.out.frozen 11
    have hL4 := HL3.out.set_ 11 (.int .i64 tv)
    simp only [List.setIfInBounds_toArray, List.set_cons_zero, List.set_cons_succ] at hL4
    have v1 := (HN1.out.far (p := ⟨g, 11, none⟩) HG1.out.symm (.int .i64 tv)).cell 0
    have v2 := (HN2.out.far (p := ⟨g, 11, none⟩) HG2.out.symm (.int .i64 tv)).cell 0
    refine tree_skip _ (w' := ?_) rfl (by rfl) ?_ ?_ ?_
    rotate_left 1
    · go_simp; (first | (with_reducible rfl) | (constructor <;> with_reducible rfl) | skip)
    · exact ⟨v1, v2⟩
    refine hPE _ _ ?_
    clear hPE PE
    simp only [List.drop_succ_cons, List.drop_zero, List.drop_nil]
    have hL5 : Blk (World.drew ((w2.setCell ⟨g, 1, none⟩ (.int .i64 a2)).setCell ⟨g, 11, none⟩ (.int .i64 tv))) g 61 _ := hL4.drewN 1
    have HT5 := Lib.hid (turn_drew (turn_set HT3.out 11 (.int .i64 tv)))
    clear v1 v2 kk fk u1 u2
    go_wp2_with fail
    refine ⟨rfl, ?_⟩
    go_wp2_with fail
    go_ret
    exact ⟨rfl, hL5, HT5.out⟩
end Go.Proofs.YtcojnigkgbmbmaaGreatDoor
namespace Go.Proofs.YtcojnigkgbmbmaaGreatDoor
open Go Go.RowKit
attribute [local go_sem] Oper.semAt_some
/-- behind a step that appends a block. -/
structure RdBPost (w0 : World) (g : Nat) (A : Option Addr) (n c : Nat) (s : RdS) (xs : List BkE) (r : BlkM × Int × Int) (a2 : Int) (w : World) (e : Ending) (w' : World) : Prop where
  ret : e = .returned (.int .i64 r.2.2)
  ex : ∃ v A2 c2, Blk w' g 61 (rdC A n c { s with a := a2, v := v }) ∧ w'.ownsRow w0.heap.size 81 2 v (xs.length + 1) (rowC bkC (xs ++ [(r.1, A2, c2)])) ∧ w'.ownsRow w0.heap.size 109 2 (.slice A2 r.1.l.length c2) r.1.l.length (rowC pairC r.1.l)
  below : Below w0.heap.size w0 w'
  keep : ∀ (g' : Nat) (t : TypeId) (cs : Array Value), Blk w g' t cs → t ≠ 81 → g' ≠ g → Blk w' g' t cs
  from_ : ∀ B' : Nat, KeepsFrom B' w w'
theorem ownsRow_le' {w : World} {base base' e size n : Nat} {v : Value} {xs : List Value} (h : w.ownsRow base e size v n xs) (hb : base' ≤ base) : w.ownsRow base' e size v n xs := by
  refine ⟨h.1, ?_⟩
  rcases h.2 with h1 | ⟨g, cap, cur, h1, h2, h3⟩
  · exact .inl h1
  · exact .inr ⟨g, cap, cur, h1, Nat.le_trans hb h2, h3⟩
theorem own_sl2 {w : World} {base e size n : Nat} {v : Value} {xs : List Value} (h : w.ownsRow base e size v n xs) : ∃ A c, v = .slice A n c ∧ Sl w A xs := by
  rcases h.2 with ⟨rfl, rfl⟩ | ⟨g, cap, cur, rfl, hbg, hh, h1, h2, h3, h4⟩
  · have : xs = [] := List.eq_nil_of_length_eq_zero (by simpa using h.1)
    subst this
    exact ⟨none, 0, rfl, Sl.nil _ _⟩
  · refine ⟨_, _, rfl, ?_⟩
    have := (Blk.sl (w := w) (g := g) (t := e) (cs := cur) hh 0).take (n * size)
    rw [List.drop_zero, h4] at this
    exact this
theorem etBlock : ElemT Tryz.prog 27 81 2 32 := .mk' (z := .agg #[.int .i64 0, .slice none 0 0]) (by kernel_rfl) (by kernel_rfl) rfl (by decide) (by decide)
section
variable {P : Program} {t e size bytes : Nat} {w W : World} {L : List CellF} {R : List RowF} {base n : Nat} {m : Nat} {v : Value} {xs news : List Value} {nb c : Nat}
theorem tree_appG (et : ElemT P t e size bytes) {dsts : List (Option Tmp)} {E : Act → World → Prop} {S : World → Prop} {r : PlnO} {tmps : Array Value} {defers : List Deferred} {o : Oper} {d : Nat} {s x : Operand} (hd : o.dst = some d) (hw : wanted2 o dsts tmps = true)
    (ho : o.op = .call { callee := .builtin .append, args := #[s, x], argTypes := #[t, t] }) (hs : Act.eval ⟨tmps, defers⟩ s = v) (hc : Cons w L (⟨base, e, size, v, n, xs⟩ :: R) W) (hx : Act.eval ⟨tmps, defers⟩ x = .slice (some ⟨nb, 0, none⟩) m c) (hnb : Blk W nb e news.toArray)
    (hl : news.length = m * size) (h1 : ∀ u ∈ news, u.oneCell' = true) (hb : (n + m) * bytes ≤ 140737488355328) (hbase : w.heap.size ≤ base ∧ base ≤ W.heap.size) (hL : ∀ p ∈ L, p.2.1 ≠ e ∨ p.1 < base) (hR : ∀ r ∈ R, r.e ≠ e)
    (h : ∀ v' W', Cons w L (⟨base, e, size, v', n + m, xs ++ news⟩ :: R) W' → (∀ g t cs, Blk W g t cs → t ≠ e → Blk W' g t cs) → W.grownBy W' v.ownBlock → S W' ∧ wpTreeO P dsts E r S ⟨tmps.setIfInBounds d v', defers⟩ W') :
    StepO P dsts o (fun a' w' => ∃ S' : World → Prop, (∀ w, S' w → S w) ∧ S' w' ∧ wpTreeO P dsts E r S' a' w') ⟨tmps, defers⟩ W := by
  obtain ⟨v', w', hrun, h2, h3, h4⟩ := run_app et o.type (c := c) hc.2.2.head hl (by have := Blk.sl hnb 0; simpa using this) h1 hb hbase.2
  obtain ⟨h5, h6⟩ := cons_app2 hc h3 h2 hbase.1 hL hR
  obtain ⟨h7, h8⟩ := h v' w' h5 h6 h3
  refine tree_value (v := v') (w' := w') hd hw ?_ h7 h8
  unfold execOp
  simp only [ho, resolve, invoke, builtin, Sem.run_bind, Sem.run_pure, Result.andThen_ok, List.map_toArray, List.map_cons, List.map_nil, hs, hx, hrun]
end
set_option maxRecDepth 100000 in
set_option maxHeartbeats 8000000 in
theorem rd_block (w0 : World) (g : Nat) (A : Option Addr) (n c : Nat) (l : List UInt8) (s : RdS) (xs : List BkE) (w : World) (hB0 : Below w0.heap.size w0 w) (hBg : w0.heap.size ≤ g) (hb : Blk w g 61 (rdC A n c s)) (hT : Ts w) (hA : Sl w A (l.map byteV)) (hn : l.length = n) (hsz : n ≤ 2 ^ 47)
    (hrow : w.ownsRow w0.heap.size 81 2 s.v xs.length (rowC bkC xs)) (hx : xs.length ≤ 100) (a2 : Int) (ha2 : IntKind.i64.wrap (s.a + (bgetP l s.a s.pt.1).2.1) = a2) :
    Calls Tryz.prog 76 #[.pointer (some ⟨g, 0, none⟩)] w (RdBPost w0 g A n c s xs (bgetP l s.a s.pt.1) a2 w) := by
  obtain ⟨a, ⟨t0, t1, t2, t3, t4⟩, ad, kd, qu, mx, my, pa, v, x, y⟩ := s
  dsimp only at ha2 hrow ⊢
  have G := Lib.hid (fun W hW hT => block_Get A n c l a t0 W hW hn hsz hT)
  obtain ⟨⟨⟨rd, rl⟩, rn, re⟩, hr⟩ : ∃ r, bgetP l a t0 = r := ⟨_, rfl⟩
  rw [hr] at G ha2 ⊢
  dsimp only at ha2
  have hw : IntKind.i64.wrap (a + rn) = a2 := ha2
  obtain ⟨RC, hrc⟩ : ∃ RC, rdC A n c ⟨a, (t0, t1, t2, t3, t4), ad, kd, qu, mx, my, pa, v, x, y⟩ = RC := ⟨_, rfl⟩
  have hc0 : RC[0]? = some (.slice A n c) := by rw [← hrc]; rfl
  have hc1 : RC[1]? = some (.int .i64 a) := by rw [← hrc]; rfl
  have hc2 : RC[2]? = some (.bool t0) := by rw [← hrc]; rfl
  rw [hrc] at hb
  have hbd : Blk w.drew g 61 RC := hb.drewN 1
  have y0 := hbd.cell 0; have y1 := hbd.cell 1; have y2 := hbd.cell 2
  rw [hc0] at y0
  rw [hc1] at y1
  rw [hc2] at y2
  have HBw := Lib.hid hb
  have HBd := Lib.hid hbd; have HRC := Lib.hid hrc; have HC0 := Lib.hid hc0; have HC1 := Lib.hid hc1; have HC2 := Lib.hid hc2
  have HAd := Lib.hid (show Sl w.drew A (l.map byteV) from hA); have HTd := Lib.hid (show Ts w.drew from hT)
  have HROW := Lib.hid hrow; have HB0 := Lib.hid hB0; have HBG := Lib.hid hBg
  have hgl := hb.lt
  clear hb hA hr ha2 hbd hn hsz hT hrc hc0 hc1 hc2 hrow hB0 hBg
  go_enter Tryz.func76, Tryz.ntmps76
  go_wp2_with fail
  refine wp_region_treeN (fun w' => w'.cell? ⟨g, 0, none⟩ = some (.slice A n c) ∧ w'.cell? ⟨g, 1, none⟩ = some (.int .i64 a) ∧ w'.cell? ⟨g, 2, none⟩ = some (.bool t0)) 21 (.take 0 (.take 1 (.take 2 (.take 3 (.take 4 (.take 5 (.take 6 (.take 7 (.take 8 (.take 9 (.take 10 (.take 11 (.take 12 (.fork 13 (.take 14 (.take 15 (.take 16 (.take 17 (.step 18 (.step 19 (.step 20 (.done)))))))) 18 (.step 13 (.take 14 (.take 15 (.take 16 (.take 17 (.step 19 (.step 20 (.done)))))))))))))))))))))) (by kernel_rfl) (by kernel_rfl) (by simp only [Pln.out, Array.getD_eq_getD_getElem?, List.getElem?_toArray, List.getElem?_cons_zero, List.getElem?_cons_succ, Option.getD_some]; rfl) (by simp only [List.map_cons, List.map_nil]; rfl) (⟨y0, y1, y2⟩) (fun PE hPE => ?_)
  iterate 13
    refine tree_take (v := ?_) rfl (by rfl) ?_ ?_
    rotate_left
    · intro _ hSw; (try dsimp only at hSw); obtain ⟨s0, s1, s2⟩ := hSw; go_simp; (try with_reducible rfl)
    simp only [List.setIfInBounds_toArray, List.set_cons_zero, List.set_cons_succ]
  refine ⟨?_, ?_⟩
  · refine tree_call (f := 115) rfl (by rfl) (by first | (go_simp; done) | (go_simp; rfl)) (G.out _ HAd.out HTd.out) ?_
    rintro e w2 ⟨v2, rfl, hb2, ho2⟩
    obtain ⟨A2, c2, hv2, _⟩ := own_sl2 ho2
    dsimp only at hv2 ho2
    subst hv2
    dsimp only
    have hL2 := HBd.out.below hb2 HBd.out.lt
    refine ⟨_, rfl, _, fun _ h => h, ⟨by rw [hL2.cell, HC0.out], by rw [hL2.cell, HC1.out], by rw [hL2.cell, HC2.out]⟩, ?_⟩
    simp only [List.setIfInBounds_toArray, List.set_cons_zero, List.set_cons_succ]
    iterate 4
      refine tree_take (v := ?_) rfl (by rfl) ?_ ?_
      rotate_left
      · intro _ hSw; (try dsimp only at hSw); go_simp; (try with_reducible rfl)
      simp only [List.setIfInBounds_toArray, List.set_cons_zero, List.set_cons_succ]
    obtain ⟨b3, hb3⟩ : ∃ b3, w2.heap.size = b3 := ⟨_, rfl⟩
    refine tree_value (v := ?_) (w' := ?_) rfl (by rfl) ?_ ?_ ?_
    rotate_left 2
    · go_simp; (try (constructor <;> with_reducible rfl))
    · exact ⟨by rw [(hL2.alloc _).cell, HC0.out], by rw [(hL2.alloc _).cell, HC1.out], by rw [(hL2.alloc _).cell, HC2.out]⟩
    simp only [List.setIfInBounds_toArray, List.set_cons_zero, List.set_cons_succ]
    refine tree_skip _ (w' := ?_) rfl (by rfl) ?_ ?_ ?_
    rotate_left 1
    · go_simp; (first | (with_reducible rfl) | (constructor <;> with_reducible rfl) | skip)
    · exact ⟨by rw [(hL2.alloc _).cell, HC0.out], by rw [(hL2.alloc _).cell, HC1.out], by rw [(hL2.alloc _).cell, HC2.out]⟩
    refine tree_value (v := ?_) (w' := ?_) rfl (by rfl) ?_ ?_ ?_
    rotate_left 2
    · go_simp; (try (constructor <;> with_reducible rfl))
    · exact ⟨by rw [(hL2.alloc _).cell, HC0.out], by rw [(hL2.alloc _).cell, HC1.out], by rw [(hL2.alloc _).cell, HC2.out]⟩
    simp only [List.setIfInBounds_toArray, List.set_cons_zero, List.set_cons_succ]
    refine hPE _ _ ?_
    clear hPE PE
    simp only [List.drop_succ_cons, List.drop_zero, List.drop_nil]
    go_wp2_with fail
    refine ⟨rfl, ?_⟩
    have hbb : Below w0.heap.size w0 w2 := (HB0.out.drew).trans (hb2.mono (by show _ ≤ w.heap.size; exact HB0.out.size))
    have hc5 : Cons w0 [(b3, 81, #[.int .i64 rd, .slice A2 rl.length c2]), (g, 61, RC)] [⟨w0.heap.size, 81, 2, v, xs.length, rowC bkC xs⟩, ⟨w0.heap.size, 109, 2, .slice A2 rl.length c2, rl.length, rowC pairC rl⟩] (w2.alloc (.cells #[.int .i64 rd, .slice A2 rl.length c2] 81)) :=
      cons_cell (cons_alloc ⟨hbb, CellsAt.cons hL2 (cellsAt_nil _), RowsAt.cons (own_below (show (World.drew w).ownsRow _ _ _ _ _ _ from HROW.out) hb2 (Nat.le_refl _)) (RowsAt.cons (ownsRow_le' ho2 HB0.out.size) (rowsAt_nil _))⟩ _) (blkAt (Blk.new _ _ _) hb3)
    have hbw : Below w.heap.size w (w2.alloc (.cells #[.int .i64 rd, .slice A2 rl.length c2] 81)) := (((Below.refl _ w).drew).trans (hb2.mono (by simp))).alloc (by have := hb2.size; simpa using this) _
    have HB3G := Lib.hid (show ¬ b3 = g by have := hb2.size; simp at this; omega)
    have HB3W := Lib.hid (show w.heap.size ≤ b3 by have := hb2.size; simp at this; omega)
    clear y0 y1 y2 hL2 hbb hb2 ho2 hb3 G
    generalize w2.alloc (.cells #[.int .i64 rd, .slice A2 rl.length c2] 81) = W5 at hc5 hbw ⊢
    have q1 : W5.cell? ⟨g, 1, none⟩ = some (.int .i64 a) := by rw [hc5.2.1.tail.head.cell, HC1.out]
    have fq := hc5.2.1.tail.head.frozen 1
    have HC5 := Lib.hid hc5; have HBW := Lib.hid hbw
    have hc6 := cons_store hc5 HBG.out 1 (.int .i64 a2) (g, 61, RC) (by simp) rfl (by simp)
    have hne3 : ¬ b3 = g := HB3G.out
    simp [setL, hne3] at hc6
    have HC6 := Lib.hid hc6
    clear hc5 hbw hc6 hne3
    go_upto_region 3 with fail
    clear q1 fq
    have hc7 := cons_drew HC6.out
    have hv13 : (RC.setIfInBounds 1 (.int .i64 a2))[13]? = some v := by rw [← HRC.out]; rfl
    obtain ⟨A9, c9, hv9⟩ := own_slN HROW.out
    subst hv9
    have z0 := hc7.2.1.head.cell 0; have z1 := hc7.2.1.head.cell 1; have z2 := hc7.2.1.tail.head.cell 13
    rw [hv13] at z2
    have hz3 : Blk (World.drew ((W5.setCell ⟨g, 1, none⟩ (.int .i64 a2)).alloc (.cells #[.int .i64 rd, .slice A2 rl.length c2] 81))) b3 81 #[.int .i64 rd, .slice A2 rl.length c2] := (HC6.out.2.1.head.alloc _).drewN 1
    have hz4 : Blk (World.drew ((W5.setCell ⟨g, 1, none⟩ (.int .i64 a2)).alloc (.cells #[.int .i64 rd, .slice A2 rl.length c2] 81))) g 61 (RC.setIfInBounds 1 (.int .i64 a2)) := (HC6.out.2.1.tail.head.alloc _).drewN 1
    have z2' := hz4.cell 13
    rw [hv13] at z2'
    have HZ3 := Lib.hid hz3; have HZ4 := Lib.hid hz4
    have HC7 := Lib.hid hc7
    clear hc7 hv13
    refine wp_region_treeN (fun w' => w'.cell? ⟨b3, 0, none⟩ = some (.int .i64 rd) ∧ w'.cell? ⟨b3, 1, none⟩ = some (.slice A2 rl.length c2) ∧ w'.cell? ⟨g, 13, none⟩ = some (.slice A9 xs.length c9)) 9 (.take 0 (.take 1 (.take 2 (.take 3 (.take 4 (.take 5 (.take 6 (.step 7 (.step 8 .done))))))))) (by kernel_rfl) (by kernel_rfl) (by simp only [Pln.out, Array.getD_eq_getD_getElem?, List.getElem?_toArray, List.getElem?_cons_zero, List.getElem?_cons_succ, Option.getD_some]; rfl) (by simp only [List.map_cons, List.map_nil]; rfl) (⟨z0, z1, z2⟩) (fun PE hPE => ?_)
    iterate 7
      refine tree_take (v := ?_) rfl (by rfl) ?_ ?_
      rotate_left
      · intro _ hSw; (try dsimp only at hSw); obtain ⟨s0, s1, s2⟩ := hSw; go_simp; (try with_reducible rfl)
      simp only [List.setIfInBounds_toArray, List.set_cons_zero, List.set_cons_succ]
    refine tree_value (v := ?_) (w' := ?_) rfl (by rfl) ?_ ?_ ?_
    rotate_left 2
    · go_simp; (try (constructor <;> with_reducible rfl))
    · exact ⟨hz3.cell 0, hz3.cell 1, z2'⟩
    simp only [List.setIfInBounds_toArray, List.set_cons_zero, List.set_cons_succ]
    have hca : Cons w0 [(g, 61, RC.setIfInBounds 1 (.int .i64 a2))] [⟨w0.heap.size, 81, 2, .slice A9 xs.length c9, xs.length, rowC bkC xs⟩, ⟨w0.heap.size, 109, 2, .slice A2 rl.length c2, rl.length, rowC pairC rl⟩] (World.drew ((W5.setCell ⟨g, 1, none⟩ (.int .i64 a2)).alloc (.cells #[.int .i64 rd, .slice A2 rl.length c2] 81))) := cons_drew (cons_alloc (cons_drop HC6.out) _)
    have hnb : Blk (World.drew ((W5.setCell ⟨g, 1, none⟩ (.int .i64 a2)).alloc (.cells #[.int .i64 rd, .slice A2 rl.length c2] 81))) W5.heap.size 81 [Value.int .i64 rd, .slice A2 rl.length c2].toArray := (blkAt (Blk.new _ _ _) (by simp)).drewN 1
    refine tree_appG etBlock rfl rfl rfl rfl hca rfl hnb (m := 1) (news := [.int .i64 rd, .slice A2 rl.length c2]) rfl (by intro u hu; simp at hu; rcases hu with rfl | rfl <;> rfl) (by omega) ⟨Nat.le_refl _, hca.1.size⟩ (by simp) (by simp) (fun v' W7 hc8 hk8 hg8 => ⟨?_, ?_⟩)
    · have hlt : b3 < (World.drew ((W5.setCell ⟨g, 1, none⟩ (.int .i64 a2)).alloc (.cells #[.int .i64 rd, .slice A2 rl.length c2] 81))).heap.size := HZ3.out.lt
      have hb7 : Blk W7 b3 81 #[.int .i64 rd, .slice A2 rl.length c2] := (hg8.block b3 hlt (fun e => by have h1 := (HROW.out.lt b3 e.symm).2; have h2 := HB3W.out; omega)).trans HZ3.out
      refine ⟨hb7.cell 0, hb7.cell 1, ?_⟩
      rw [hc8.2.1.head.cell 13]
      exact (HZ4.out.cell 13).symm.trans z2'
    simp only [List.setIfInBounds_toArray, List.set_cons_zero, List.set_cons_succ]
    obtain ⟨A10, c10, hv10⟩ := own_slN hc8.2.2.head
    dsimp only at hv10
    subst hv10
    have k13 := hc8.2.1.head.cell 13; have f13 := hc8.2.1.head.frozen 13
    have e13 : (RC.setIfInBounds 1 (.int .i64 a2))[13]? = some (.slice A9 xs.length c9) := by rw [← HRC.out]; rfl
    dsimp only at k13
    rw [e13] at k13
    have HC8 := Lib.hid hc8; have HK8 := Lib.hid hk8; have HG8 := Lib.hid hg8
    clear hc8 hk8 hg8 z0 z1 z2 z2' hz3 hz4 hca hnb e13
    refine hPE _ _ ?_
    clear hPE PE
    simp only [List.drop_succ_cons, List.drop_zero, List.drop_nil]
    go_wp2_with fail
    refine ⟨rfl, ?_⟩
    go_wp2_with fail
    go_ret
    have hc9 := cons_store HC8.out HBG.out 13 (.slice A10 (xs.length + 1) c10) (g, 61, RC.setIfInBounds 1 (.int .i64 a2)) (by simp) rfl (by simp)
    simp [setL] at hc9
    have hca := cons_drew (cons_alloc (cons_drop HC6.out) (.cells #[.int .i64 rd, .slice A2 rl.length c2] 81))
    refine ⟨rfl, ⟨.slice A10 (xs.length + 1) c10, A2, c2, ?_, ?_, ?_⟩, hc9.1, fun g' t cs h ht hg' => ?_, fun B' => ?_⟩
    · have h := hc9.2.1.head
      rw [← HRC.out] at h
      exact h
    · have h := hc9.2.2.head
      rw [rowC_app, rowC_one]
      exact h
    · exact hc9.2.2.tail.head
    · exact (HK8.out g' t cs (((h.below HBW.out h.lt).far (p := ⟨g, 1, none⟩) hg' (.int .i64 a2)).alloc (.cells #[.int .i64 rd, .slice A2 rl.length c2] 81)) ht).far (p := ⟨g, 13, none⟩) hg' _
    · exact kf_set (kf_then' (kf_drew (kf_alloc (kf_set (kf_below HBW.out) _ _) _)) (kf_grown (KeepsFrom.refl _ _) HG8.out (own_cells hca.2.2.head))) _ _
  · obtain ⟨b3, hb3⟩ : ∃ b3, w.heap.size = b3 := ⟨_, rfl⟩
    have hL1 : Blk (World.drew (w.alloc (.cells #[.int .i64 0, .slice none 0 0] 81))) g 61 RC := (HBw.out.alloc _).drewN 1
    refine tree_value (v := ?_) (w' := ?_) rfl (by rfl) ?_ ?_ ?_
    rotate_left 2
    · go_simp; (try (constructor <;> with_reducible rfl))
    · exact ⟨by rw [hL1.cell, HC0.out], by rw [hL1.cell, HC1.out], by rw [hL1.cell, HC2.out]⟩
    simp only [List.setIfInBounds_toArray, List.set_cons_zero, List.set_cons_succ]
    have hBa : Below w.heap.size w (World.drew (w.alloc (.cells #[.int .i64 0, .slice none 0 0] 81))) := ((Below.refl _ _).alloc (Nat.le_refl _) _).drew
    have hsz1 : (World.drew (w.alloc (.cells #[.int .i64 0, .slice none 0 0] 81))).heap.size = w.heap.size + 1 := World.size_alloc _ _
    have hP0 : Blk (World.drew (w.alloc (.cells #[.int .i64 0, .slice none 0 0] 81))) b3 81 #[.int .i64 0, .slice none 0 0] := (blkAt (Blk.new _ _ _) hb3).drewN 1
    refine tree_call (f := 115) rfl (by rfl) (by first | (go_simp; done) | (go_simp; rfl)) (G.out _ ((show Sl w A _ from HAd.out).below hBa) ((show Ts w from HTd.out).below hBa)) ?_
    rintro e w2 ⟨v2, rfl, hb2, ho2⟩
    obtain ⟨A2, c2, hv2, _⟩ := own_sl2 ho2
    dsimp only at hv2 ho2
    subst hv2
    dsimp only
    have hL2 := hL1.below hb2 hL1.lt
    have hP2 := hP0.below hb2 hP0.lt
    refine ⟨_, rfl, _, fun _ h => h, ⟨by rw [hL2.cell, HC0.out], by rw [hL2.cell, HC1.out], by rw [hL2.cell, HC2.out]⟩, ?_⟩
    simp only [List.setIfInBounds_toArray, List.set_cons_zero, List.set_cons_succ]
    iterate 4
      refine tree_take (v := ?_) rfl (by rfl) ?_ ?_
      rotate_left
      · intro _ hSw; (try dsimp only at hSw); go_simp; (try with_reducible rfl)
      simp only [List.setIfInBounds_toArray, List.set_cons_zero, List.set_cons_succ]
    have hgb3 : g ≠ b3 := by omega
    have hL3 := (hL2.far (p := ⟨b3, 0, none⟩) hgb3 (.int .i64 rd)).far (p := ⟨b3, 1, none⟩) hgb3 (.slice A2 rl.length c2)
    have k0 := hP2.cell 0; have k1 := hP2.cell 1; have f0 := hP2.frozen 0; have f1 := hP2.frozen 1
    refine tree_skip _ (w' := ?_) rfl (by rfl) ?_ ?_ ?_
    rotate_left 1
    · go_simp; (first | (with_reducible rfl) | (constructor <;> with_reducible rfl) | skip)
    · exact ⟨by rw [hL3.cell, HC0.out], by rw [hL3.cell, HC1.out], by rw [hL3.cell, HC2.out]⟩
    refine tree_value (v := ?_) (w' := ?_) rfl (by rfl) ?_ ?_ ?_
    rotate_left 2
    · go_simp; (try (constructor <;> with_reducible rfl))
    · exact ⟨by rw [hL3.cell, HC0.out], by rw [hL3.cell, HC1.out], by rw [hL3.cell, HC2.out]⟩
    simp only [List.setIfInBounds_toArray, List.set_cons_zero, List.set_cons_succ]
    refine hPE _ _ ?_
    clear hPE PE
    simp only [List.drop_succ_cons, List.drop_zero, List.drop_nil]
    go_wp2_with fail
    refine ⟨rfl, ?_⟩
    have hbb : Below w0.heap.size w0 w2 := (HB0.out.trans (hBa.mono HB0.out.size)).trans (hb2.mono (by rw [hsz1]; have := HB0.out.size; omega))
    have hro : w2.ownsRow w0.heap.size 81 2 v xs.length (rowC bkC xs) := own_below (own_below HROW.out hBa (Nat.le_refl _)) hb2 (Nat.le_refl _)
    have hvne : v.ownBlock ≠ some b3 := fun h => by have h1 := (HROW.out.lt b3 h).2; omega
    have hpne : (Value.slice A2 rl.length c2).ownBlock ≠ some b3 := fun h => by have h1 := (ho2.lt b3 h).1; rw [hsz1] at h1; omega
    have hc5 : Cons w0 [(b3, 81, #[.int .i64 rd, .slice A2 rl.length c2]), (g, 61, RC)] [⟨w0.heap.size, 81, 2, v, xs.length, rowC bkC xs⟩, ⟨w0.heap.size, 109, 2, .slice A2 rl.length c2, rl.length, rowC pairC rl⟩] ((w2.setCell ⟨b3, 0, none⟩ (.int .i64 rd)).setCell ⟨b3, 1, none⟩ (.slice A2 rl.length c2)) :=
      ⟨(hbb.setCell (p := ⟨b3, 0, none⟩) (by show _ ≤ b3; have := HB0.out.size; omega) _).setCell (p := ⟨b3, 1, none⟩) (by show _ ≤ b3; have := HB0.out.size; omega) _, CellsAt.cons ((hP2.set_ 0 (.int .i64 rd)).set_ 1 (.slice A2 rl.length c2)) (CellsAt.cons hL3 (cellsAt_nil _)),
        RowsAt.cons (own_set (own_set hro ⟨b3, 0, none⟩ _ hvne) ⟨b3, 1, none⟩ _ hvne) (RowsAt.cons (own_set (own_set (ownsRow_le' ho2 (by rw [hsz1]; have := HB0.out.size; omega)) ⟨b3, 0, none⟩ _ hpne) ⟨b3, 1, none⟩ _ hpne) (rowsAt_nil _))⟩
    have hbw : Below w.heap.size w ((w2.setCell ⟨b3, 0, none⟩ (.int .i64 rd)).setCell ⟨b3, 1, none⟩ (.slice A2 rl.length c2)) := (((hBa.trans (hb2.mono (by rw [hsz1]; omega))).setCell (p := ⟨b3, 0, none⟩) (by show _ ≤ b3; omega) _).setCell (p := ⟨b3, 1, none⟩) (by show _ ≤ b3; omega) _)
    have HB3G := Lib.hid (show ¬ b3 = g by omega)
    have HB3W := Lib.hid (show w.heap.size ≤ b3 by omega)
    clear y0 y1 y2 hL1 hL2 hL3 hbb hb2 ho2 hb3 G hBa hP0 hP2 hgb3 k0 k1 f0 f1 hro hvne hpne hsz1
    generalize (w2.setCell ⟨b3, 0, none⟩ (.int .i64 rd)).setCell ⟨b3, 1, none⟩ (.slice A2 rl.length c2) = W5 at hc5 hbw ⊢
    have q1 : W5.cell? ⟨g, 1, none⟩ = some (.int .i64 a) := by rw [hc5.2.1.tail.head.cell, HC1.out]
    have fq := hc5.2.1.tail.head.frozen 1
    have HC5 := Lib.hid hc5; have HBW := Lib.hid hbw
    have hc6 := cons_store hc5 HBG.out 1 (.int .i64 a2) (g, 61, RC) (by simp) rfl (by simp)
    have hne3 : ¬ b3 = g := HB3G.out
    simp [setL, hne3] at hc6
    have HC6 := Lib.hid hc6
    clear hc5 hbw hc6 hne3
    go_upto_region 3 with fail
    clear q1 fq
    have hc7 := cons_drew HC6.out
    have hv13 : (RC.setIfInBounds 1 (.int .i64 a2))[13]? = some v := by rw [← HRC.out]; rfl
    obtain ⟨A9, c9, hv9⟩ := own_slN HROW.out
    subst hv9
    have z0 := hc7.2.1.head.cell 0; have z1 := hc7.2.1.head.cell 1; have z2 := hc7.2.1.tail.head.cell 13
    rw [hv13] at z2
    have hz3 : Blk (World.drew ((W5.setCell ⟨g, 1, none⟩ (.int .i64 a2)).alloc (.cells #[.int .i64 rd, .slice A2 rl.length c2] 81))) b3 81 #[.int .i64 rd, .slice A2 rl.length c2] := (HC6.out.2.1.head.alloc _).drewN 1
    have hz4 : Blk (World.drew ((W5.setCell ⟨g, 1, none⟩ (.int .i64 a2)).alloc (.cells #[.int .i64 rd, .slice A2 rl.length c2] 81))) g 61 (RC.setIfInBounds 1 (.int .i64 a2)) := (HC6.out.2.1.tail.head.alloc _).drewN 1
    have z2' := hz4.cell 13
    rw [hv13] at z2'
    have HZ3 := Lib.hid hz3; have HZ4 := Lib.hid hz4
    have HC7 := Lib.hid hc7
    clear hc7 hv13
    refine wp_region_treeN (fun w' => w'.cell? ⟨b3, 0, none⟩ = some (.int .i64 rd) ∧ w'.cell? ⟨b3, 1, none⟩ = some (.slice A2 rl.length c2) ∧ w'.cell? ⟨g, 13, none⟩ = some (.slice A9 xs.length c9)) 9 (.take 0 (.take 1 (.take 2 (.take 3 (.take 4 (.take 5 (.take 6 (.step 7 (.step 8 .done))))))))) (by kernel_rfl) (by kernel_rfl) (by simp only [Pln.out, Array.getD_eq_getD_getElem?, List.getElem?_toArray, List.getElem?_cons_zero, List.getElem?_cons_succ, Option.getD_some]; rfl) (by simp only [List.map_cons, List.map_nil]; rfl) (⟨z0, z1, z2⟩) (fun PE hPE => ?_)
    iterate 7
      refine tree_take (v := ?_) rfl (by rfl) ?_ ?_
      rotate_left
      · intro _ hSw; (try dsimp only at hSw); obtain ⟨s0, s1, s2⟩ := hSw; go_simp; (try with_reducible rfl)
      simp only [List.setIfInBounds_toArray, List.set_cons_zero, List.set_cons_succ]
    refine tree_value (v := ?_) (w' := ?_) rfl (by rfl) ?_ ?_ ?_
    rotate_left 2
    · go_simp; (try (constructor <;> with_reducible rfl))
    · exact ⟨hz3.cell 0, hz3.cell 1, z2'⟩
    simp only [List.setIfInBounds_toArray, List.set_cons_zero, List.set_cons_succ]
    have hca : Cons w0 [(g, 61, RC.setIfInBounds 1 (.int .i64 a2))] [⟨w0.heap.size, 81, 2, .slice A9 xs.length c9, xs.length, rowC bkC xs⟩, ⟨w0.heap.size, 109, 2, .slice A2 rl.length c2, rl.length, rowC pairC rl⟩] (World.drew ((W5.setCell ⟨g, 1, none⟩ (.int .i64 a2)).alloc (.cells #[.int .i64 rd, .slice A2 rl.length c2] 81))) := cons_drew (cons_alloc (cons_drop HC6.out) _)
    have hnb : Blk (World.drew ((W5.setCell ⟨g, 1, none⟩ (.int .i64 a2)).alloc (.cells #[.int .i64 rd, .slice A2 rl.length c2] 81))) W5.heap.size 81 [Value.int .i64 rd, .slice A2 rl.length c2].toArray := (blkAt (Blk.new _ _ _) (by simp)).drewN 1
    refine tree_appG etBlock rfl rfl rfl rfl hca rfl hnb (m := 1) (news := [.int .i64 rd, .slice A2 rl.length c2]) rfl (by intro u hu; simp at hu; rcases hu with rfl | rfl <;> rfl) (by omega) ⟨Nat.le_refl _, hca.1.size⟩ (by simp) (by simp) (fun v' W7 hc8 hk8 hg8 => ⟨?_, ?_⟩)
    · have hlt : b3 < (World.drew ((W5.setCell ⟨g, 1, none⟩ (.int .i64 a2)).alloc (.cells #[.int .i64 rd, .slice A2 rl.length c2] 81))).heap.size := HZ3.out.lt
      have hb7 : Blk W7 b3 81 #[.int .i64 rd, .slice A2 rl.length c2] := (hg8.block b3 hlt (fun e => by have h1 := (HROW.out.lt b3 e.symm).2; have h2 := HB3W.out; omega)).trans HZ3.out
      refine ⟨hb7.cell 0, hb7.cell 1, ?_⟩
      rw [hc8.2.1.head.cell 13]
      exact (HZ4.out.cell 13).symm.trans z2'
    simp only [List.setIfInBounds_toArray, List.set_cons_zero, List.set_cons_succ]
    obtain ⟨A10, c10, hv10⟩ := own_slN hc8.2.2.head
    dsimp only at hv10
    subst hv10
    have k13 := hc8.2.1.head.cell 13; have f13 := hc8.2.1.head.frozen 13
    have e13 : (RC.setIfInBounds 1 (.int .i64 a2))[13]? = some (.slice A9 xs.length c9) := by rw [← HRC.out]; rfl
    dsimp only at k13
    rw [e13] at k13
    have HC8 := Lib.hid hc8; have HK8 := Lib.hid hk8; have HG8 := Lib.hid hg8
    clear hc8 hk8 hg8 z0 z1 z2 z2' hz3 hz4 hca hnb e13
    refine hPE _ _ ?_
    clear hPE PE
    simp only [List.drop_succ_cons, List.drop_zero, List.drop_nil]
    go_wp2_with fail
    refine ⟨rfl, ?_⟩
    go_wp2_with fail
    go_ret
    have hc9 := cons_store HC8.out HBG.out 13 (.slice A10 (xs.length + 1) c10) (g, 61, RC.setIfInBounds 1 (.int .i64 a2)) (by simp) rfl (by simp)
    simp [setL] at hc9
    have hca := cons_drew (cons_alloc (cons_drop HC6.out) (.cells #[.int .i64 rd, .slice A2 rl.length c2] 81))
    refine ⟨rfl, ⟨.slice A10 (xs.length + 1) c10, A2, c2, ?_, ?_, ?_⟩, hc9.1, fun g' t cs h ht hg' => ?_, fun B' => ?_⟩
    · have h := hc9.2.1.head
      rw [← HRC.out] at h
      exact h
    · have h := hc9.2.2.head
      rw [rowC_app, rowC_one]
      exact h
    · exact hc9.2.2.tail.head
    · exact (HK8.out g' t cs (((h.below HBW.out h.lt).far (p := ⟨g, 1, none⟩) hg' (.int .i64 a2)).alloc (.cells #[.int .i64 rd, .slice A2 rl.length c2] 81)) ht).far (p := ⟨g, 13, none⟩) hg' _
    · exact kf_set (kf_then' (kf_drew (kf_alloc (kf_set (kf_below HBW.out) _ _) _)) (kf_grown (KeepsFrom.refl _ _) HG8.out (own_cells hca.2.2.head))) _ _
end Go.Proofs.YtcojnigkgbmbmaaGreatDoor
namespace Go.Proofs.YtcojnigkgbmbmaaGreatDoor
open Go Go.RowKit
theorem findR_ok {s : List UInt8} : ∀ {cs : List (List UInt8)} {ns : List Int} {n k : Int}, findR s cs ns = some (n, k) → n ∈ ns ∧ 0 ≤ k ∧ k ≤ s.length
  | [], _, _, _, h => by simp [findR] at h
  | _ :: _, [], _, _, h => by simp [findR] at h
  | c :: cs, m :: ns, n, k, h => by
    unfold findR at h
    split at h
    · rename_i hp
      have hle := (List.isPrefixOf_iff_prefix.1 hp).length_le
      simp only [Option.some.injEq, Prod.mk.injEq] at h
      obtain ⟨rfl, rfl⟩ := h
      exact ⟨by simp, by omega, by omega⟩
    · obtain ⟨a, b⟩ := findR_ok h
      exact ⟨List.mem_cons_of_mem _ a, b⟩
theorem treeR_ok {cs : List (List UInt8)} {ns : List Int} {l : List UInt8} {i : Int} (h0 : 0 ≤ i) (h1 : i ≤ 8 * (l.length : Int)) :
    0 ≤ (treeR cs ns l i).2.1 ∧ i + (treeR cs ns l i).2.1 ≤ 8 * (l.length : Int) ∧ ((treeR cs ns l i).2.2 = 0 → (treeR cs ns l i).1 ∈ ns) := by
  unfold treeR getT
  rw [if_neg (by omega)]
  have hl : (bitsL l i.toNat (min 24 (8 * l.length - i.toNat))).length ≤ 8 * l.length - i.toNat := by rw [bitsL_length]; omega
  generalize bitsL l i.toNat (min 24 (8 * l.length - i.toNat)) = s at hl
  cases hf : findR s cs ns with
  | some p =>
    obtain ⟨n, k⟩ := p
    obtain ⟨a, b, c⟩ := findR_ok hf
    exact ⟨b, by show i + k ≤ _; omega, fun _ => a⟩
  | none =>
    dsimp only
    split
    · exact ⟨by decide, by show i + 0 ≤ _; omega, fun h => by cases h⟩
    · exact ⟨by decide, by show i + 0 ≤ _; omega, fun h => by cases h⟩
theorem vecN_range : vecN.all (fun n => decide (-16 ≤ n) && decide (n ≤ 15)) = true := by kernel_rfl
theorem vec_get_ok {l : List UInt8} {i : Int} (h0 : 0 ≤ i) (h1 : i ≤ 8 * (l.length : Int)) (he : (treeR vecC vecN l i).2.2 = 0) : -16 ≤ (treeR vecC vecN l i).1 ∧ (treeR vecC vecN l i).1 ≤ 15 := by
  have h := List.all_eq_true.1 vecN_range _ ((treeR_ok h0 h1).2.2 he)
  simpa using h
theorem bpairs_ok (l : List UInt8) : ∀ (f : Nat) (i : Int) (first : Bool) (left : Int), 0 ≤ i → i ≤ 8 * (l.length : Int) → (bpairs l f i first left).2.2 = 0 → i ≤ (bpairs l f i first left).2.1 ∧ (bpairs l f i first left).2.1 ≤ 8 * (l.length : Int)
  | 0, i, first, left, h0, h1, h => by simp [bpairs] at h
  | f + 1, i, first, left, h0, h1, h => by
    have hok := cget_ok l i first h0 h1
    unfold okR at hok
    have hu : bpairs l (f + 1) i first left = (if (cgetP l i first).2.1 then ([], i + (cgetP l i first).2.2.1, 0) else if (cgetP l i first).2.2.2 != 0 then ([], 0, (cgetP l i first).2.2.2) else
      if left - ((cgetP l i first).1.1 + 1) < 0 then ([], 0, 11) else
      ((cgetP l i first).1 :: (bpairs l f (i + (cgetP l i first).2.2.1) false (left - ((cgetP l i first).1.1 + 1))).1, (bpairs l f (i + (cgetP l i first).2.2.1) false (left - ((cgetP l i first).1.1 + 1))).2.1, (bpairs l f (i + (cgetP l i first).2.2.1) false (left - ((cgetP l i first).1.1 + 1))).2.2)) := rfl
    rw [hu] at h ⊢
    split at h
    · rename_i he
      rw [if_pos he]
      exact ⟨by show i ≤ i + _; omega, by show i + _ ≤ _; omega⟩
    · rename_i he
      rw [if_neg he]
      split at h
      · rename_i h2
        dsimp only at h
        rw [h] at h2
        cases h2
      · rename_i h2
        rw [if_neg h2]
        split at h
        · cases h
        · rename_i h3
          rw [if_neg h3]
          have ih := bpairs_ok l f (i + (cgetP l i first).2.2.1) false (left - ((cgetP l i first).1.1 + 1)) (by omega) (by omega) h
          exact ⟨Int.le_trans (by omega) ih.1, ih.2⟩
theorem bget_ok {l : List UInt8} {i : Int} {intra : Bool} (h0 : 0 ≤ i) (h1 : i ≤ 8 * (l.length : Int)) : 0 ≤ (bgetP l i intra).2.1 ∧ i + (bgetP l i intra).2.1 ≤ 8 * (l.length : Int) := by
  unfold bgetP
  rw [if_neg (by omega), if_neg (by omega)]
  cases intra with
  | true =>
    rw [if_pos rfl]
    split
    · exact ⟨Int.le_refl 0, by show i + 0 ≤ _; omega⟩
    · rename_i h8
      dsimp only
      split
      · exact ⟨Int.le_refl 0, by show i + 0 ≤ _; omega⟩
      · split
        · exact ⟨Int.le_refl 0, by show i + 0 ≤ _; omega⟩
        · rename_i hq
          have hq0 : (bpairs l 66 (i + 8) false 63).2.2 = 0 := by simpa using hq
          have h := bpairs_ok l 66 (i + 8) false 63 (by omega) (by omega) hq0
          exact ⟨by show 0 ≤ _ - i; omega, by show i + (_ - i) ≤ _; omega⟩
  | false =>
    rw [if_neg (by decide)]
    dsimp only
    split
    · exact ⟨Int.le_refl 0, by show i + 0 ≤ _; omega⟩
    · rename_i hq
      have hq0 : (bpairs l 66 i true 64).2.2 = 0 := by simpa using hq
      have h := bpairs_ok l 66 i true 64 (by omega) (by omega) hq0
      exact ⟨by show 0 ≤ _ - i; omega, by show i + (_ - i) ≤ _; omega⟩
/-- what lies ahead of a step: the iterator sets the pattern of an intra one, ahead of the fifth kind of step on. -/
def ahdS (s : RdS) (t : Nat) : RdS := if 4 ≤ t ∧ s.pt.1 = true then { s with pa := 63 } else s
/-- a step: the reader behind it (its blocks apart), what it reads of a block, and its error. Steps: 0 kind, 1 quant, 2 and 3 the vector's parts, 4 pattern, 5 a block. -/
def stpS (l : List UInt8) (s : RdS) : Nat → (RdS × List BlkM) × Int
  | 0 => (({ s with a := s.a + (treeR kindC kindN l s.a).2.1, kd := (treeR kindC kindN l s.a).1, pt := ptK (treeR kindC kindN l s.a).1 }, []), (treeR kindC kindN l s.a).2.2)
  | 1 => if 8 * (l.length : Int) < s.a + 5 then (({ s with a := s.a + 5, qu := 0 }, []), 5) else (({ s with a := s.a + 5, qu := ((numN l s.a.toNat 5 : Nat) : Int) }, []), if ((numN l s.a.toNat 5 : Nat) : Int) == 0 then 9 else 0)
  | 2 => if (treeR vecC vecN l s.a).2.2 != 0 then ((s, []), (treeR vecC vecN l s.a).2.2) else (({ s with a := s.a + (treeR vecC vecN l s.a).2.1, mx := (turnP s.x (treeR vecC vecN l s.a).1).1 }, []), (turnP s.x (treeR vecC vecN l s.a).1).2)
  | 3 => if (treeR vecC vecN l s.a).2.2 != 0 then ((s, []), (treeR vecC vecN l s.a).2.2) else (({ s with a := s.a + (treeR vecC vecN l s.a).2.1, my := (turnP s.y (treeR vecC vecN l s.a).1).1 }, []), (turnP s.y (treeR vecC vecN l s.a).1).2)
  | 4 => (({ s with a := s.a + (treeR patC patN l s.a).2.1, pa := (treeR patC patN l s.a).1 }, []), (treeR patC patN l s.a).2.2)
  | _ => (({ s with a := s.a + (bgetP l s.a s.pt.1).2.1 }, [(bgetP l s.a s.pt.1).1]), (bgetP l s.a s.pt.1).2.2)
/-- the step that follows, by the step and the reader behind it; how many blocks are there. -/
def nxtS (s : RdS) : List Nat := (if s.pt.2.1 then [1] else []) ++ (if s.pt.2.2.1 then [2, 3] else []) ++ (if s.pt.2.2.2.2 then [4] else [])
/-- steps, one behind the other, to the end or an error. -/
def runS (l : List UInt8) : List Nat → RdS → List BlkM → (RdS × List BlkM) × Int
  | [], s, bl => ((s, bl), 0)
  | t :: ts, s, bl => if (stpS l (ahdS s t) t).2 != 0 then (((stpS l (ahdS s t) t).1.1, bl ++ (stpS l (ahdS s t) t).1.2), (stpS l (ahdS s t) t).2) else runS l ts (stpS l (ahdS s t) t).1.1 (bl ++ (stpS l (ahdS s t) t).1.2)
theorem runS_cons (l : List UInt8) (t : Nat) (ts : List Nat) (s : RdS) (bl : List BlkM) : runS l (t :: ts) s bl = if (stpS l (ahdS s t) t).2 != 0 then (((stpS l (ahdS s t) t).1.1, bl ++ (stpS l (ahdS s t) t).1.2), (stpS l (ahdS s t) t).2) else runS l ts (stpS l (ahdS s t) t).1.1 (bl ++ (stpS l (ahdS s t) t).1.2) := rfl
end Go.Proofs.YtcojnigkgbmbmaaGreatDoor
namespace Go.Proofs.YtcojnigkgbmbmaaGreatDoor
open Go Go.RowKit
/-- all steps: kind, then what the kind says, then so many blocks. -/
def rdAll (l : List UInt8) (s : RdS) : (RdS × List BlkM) × Int :=
  let k := stpS l s 0
  if k.2 != 0 then k else
  let m := runS l (nxtS k.1.1) k.1.1 []
  if m.2 != 0 then m else
  runS l (List.replicate (cntP (ahdS m.1.1 5).pa) 5) m.1.1 m.1.2
theorem run_blocks (l : List UInt8) : ∀ (k : Nat) (s : RdS) (bl : List BlkM),
    (bgets l s.pt.1 k s.a).2.2 ≠ 0 ∧ (runS l (List.replicate k 5) s bl).2 = (bgets l s.pt.1 k s.a).2.2 ∨
    (bgets l s.pt.1 k s.a).2.2 = 0 ∧ (runS l (List.replicate k 5) s bl).2 = 0 ∧ (runS l (List.replicate k 5) s bl).1.2 = bl ++ (bgets l s.pt.1 k s.a).1 ∧ (runS l (List.replicate k 5) s bl).1.1.a = (bgets l s.pt.1 k s.a).2.1 ∧
      (runS l (List.replicate k 5) s bl).1.1.ad = s.ad ∧ (runS l (List.replicate k 5) s bl).1.1.kd = s.kd ∧ (runS l (List.replicate k 5) s bl).1.1.qu = s.qu ∧ (runS l (List.replicate k 5) s bl).1.1.mx = s.mx ∧ (runS l (List.replicate k 5) s bl).1.1.my = s.my ∧ (runS l (List.replicate k 5) s bl).1.1.pa = (if k = 0 then s.pa else (ahdS s 5).pa)
  | 0, s, bl => .inr ⟨rfl, rfl, by simp [bgets, runS], rfl, rfl, rfl, rfl, rfl, rfl, rfl⟩
  | k + 1, s, bl => by
    have e : stpS l (ahdS s 5) 5 = (({ ahdS s 5 with a := s.a + (bgetP l s.a s.pt.1).2.1 }, [(bgetP l s.a s.pt.1).1]), (bgetP l s.a s.pt.1).2.2) := by
      unfold ahdS
      split <;> rfl
    have eb : bgets l s.pt.1 (k + 1) s.a = (if (bgetP l s.a s.pt.1).2.2 != 0 then ([], 0, (bgetP l s.a s.pt.1).2.2) else ((bgetP l s.a s.pt.1).1 :: (bgets l s.pt.1 k (s.a + (bgetP l s.a s.pt.1).2.1)).1, (bgets l s.pt.1 k (s.a + (bgetP l s.a s.pt.1).2.1)).2.1, (bgets l s.pt.1 k (s.a + (bgetP l s.a s.pt.1).2.1)).2.2)) := rfl
    rw [List.replicate_succ, runS_cons, e, eb]
    dsimp only
    by_cases hz : (bgetP l s.a s.pt.1).2.2 = 0
    · have hz2 : ((bgetP l s.a s.pt.1).2.2 != 0) = false := by rw [hz]; rfl
      rw [hz2, if_neg (by decide), if_neg (by decide)]
      have hpt : ({ ahdS s 5 with a := s.a + (bgetP l s.a s.pt.1).2.1 } : RdS).pt = s.pt := by unfold ahdS; split <;> rfl
      have ih := run_blocks l k { ahdS s 5 with a := s.a + (bgetP l s.a s.pt.1).2.1 } (bl ++ [(bgetP l s.a s.pt.1).1])
      rw [hpt] at ih
      dsimp only at ih
      rcases ih with ⟨h1, h2⟩ | ⟨h1, h2, h3, h4, h5, h6, h7, h8, h9, h10⟩
      · exact .inl ⟨h1, h2⟩
      · refine .inr ⟨h1, h2, by rw [h3]; simp, h4, h5.trans (by unfold ahdS; split <;> rfl), h6.trans (by unfold ahdS; split <;> rfl), h7.trans (by unfold ahdS; split <;> rfl), h8.trans (by unfold ahdS; split <;> rfl), h9.trans (by unfold ahdS; split <;> rfl), h10.trans ?_⟩
        rw [if_neg (show ¬ (k + 1 = 0) by omega)]
        have e2 : (ahdS { ahdS s 5 with a := s.a + (bgetP l s.a s.pt.1).2.1 } 5).pa = (ahdS s 5).pa := by
          by_cases hI : s.pt.1 = true
          · simp [ahdS, hI]
          · simp [ahdS, hI]
        split
        · rfl
        · exact e2
    · have hz2 : ((bgetP l s.a s.pt.1).2.2 != 0) = true := by simpa using hz
      rw [hz2, if_pos rfl, if_pos rfl]
      exact .inl ⟨hz, rfl⟩
theorem runS_app (l : List UInt8) : ∀ (ts us : List Nat) (s : RdS) (bl : List BlkM), runS l (ts ++ us) s bl = if (runS l ts s bl).2 != 0 then runS l ts s bl else runS l us (runS l ts s bl).1.1 (runS l ts s bl).1.2
  | [], us, s, bl => rfl
  | t :: ts, us, s, bl => by
    rw [List.cons_append, runS_cons, runS_cons]
    split
    · rfl
    · exact runS_app l ts us _ _
theorem run_q (l : List UInt8) (kd : Int) (s : RdS) (hq : s.qu = 0) : (mq l kd s.a).2.2 ≠ 0 ∧ (runS l (if pQ kd then [1] else []) s []).2 = (mq l kd s.a).2.2 ∨ (mq l kd s.a).2.2 = 0 ∧ runS l (if pQ kd then [1] else []) s [] = (({ s with a := (mq l kd s.a).2.1, qu := (mq l kd s.a).1 }, []), 0) := by
  unfold mq
  cases hp : pQ kd with
  | false =>
    right
    obtain ⟨a, pt, ad, kd2, qu, mx, my, pa, v, x, y⟩ := s
    dsimp only at hq
    subst hq
    exact ⟨rfl, rfl⟩
  | true =>
    rw [if_pos rfl, if_pos rfl, runS_cons]
    have ha : ahdS s 1 = s := by unfold ahdS; rw [if_neg (by omega)]
    rw [ha]
    by_cases hm : 8 * (l.length : Int) < s.a + 5
    · have hs : stpS l s 1 = (({ s with a := s.a + 5, qu := 0 }, []), 5) := if_pos hm
      left
      rw [hs, if_pos hm]
      exact ⟨by decide, rfl⟩
    · have hs : stpS l s 1 = (({ s with a := s.a + 5, qu := ((numN l s.a.toNat 5 : Nat) : Int) }, []), if ((numN l s.a.toNat 5 : Nat) : Int) == 0 then 9 else 0) := if_neg hm
      rw [hs, if_neg hm]
      by_cases hz : numN l s.a.toNat 5 = 0
      · left
        rw [hz]
        exact ⟨fun h => absurd (show (9 : Int) = 0 from h) (by decide), rfl⟩
      · right
        have h1 : (((numN l s.a.toNat 5 : Nat) : Int) == 0) = false := by simpa using hz
        have h2 : (numN l s.a.toNat 5 == 0) = false := by simpa using hz
        rw [h1, h2]
        exact ⟨rfl, rfl⟩
theorem run_v (l : List UInt8) (kd : Int) (s : RdS) (hx : s.mx = 0) (hy : s.my = 0) : (mv l kd s.a s.x s.y).2.2 ≠ 0 ∧ (runS l (if pV kd then [2, 3] else []) s []).2 = (mv l kd s.a s.x s.y).2.2 ∨ (mv l kd s.a s.x s.y).2.2 = 0 ∧ runS l (if pV kd then [2, 3] else []) s [] = (({ s with a := (mv l kd s.a s.x s.y).2.1, mx := (mv l kd s.a s.x s.y).1.1, my := (mv l kd s.a s.x s.y).1.2 }, []), 0) := by
  unfold mv
  cases hp : pV kd with
  | false =>
    right
    obtain ⟨a, pt, ad, kd2, qu, mx, my, pa, v, x, y⟩ := s
    dsimp only at hx hy
    subst hx hy
    exact ⟨rfl, rfl⟩
  | true =>
    rw [if_pos rfl, if_pos rfl, runS_cons]
    have ha : ahdS s 2 = s := by unfold ahdS; rw [if_neg (by omega)]
    rw [ha]
    have e2 : vgetP l s.a s.x = if (treeR vecC vecN l s.a).2.2 != 0 then (0, 0, (treeR vecC vecN l s.a).2.2) else ((turnP s.x (treeR vecC vecN l s.a).1).1, s.a + (treeR vecC vecN l s.a).2.1, (turnP s.x (treeR vecC vecN l s.a).1).2) := rfl
    have s2 : stpS l s 2 = if (treeR vecC vecN l s.a).2.2 != 0 then ((s, []), (treeR vecC vecN l s.a).2.2) else (({ s with a := s.a + (treeR vecC vecN l s.a).2.1, mx := (turnP s.x (treeR vecC vecN l s.a).1).1 }, []), (turnP s.x (treeR vecC vecN l s.a).1).2) := rfl
    dsimp only
    rw [e2, s2]
    cases h1 : ((treeR vecC vecN l s.a).2.2 != 0) with
    | true =>
      left
      rw [if_pos rfl, if_pos rfl]
      dsimp only
      rw [h1, if_pos rfl, if_pos rfl]
      exact ⟨by simpa using h1, rfl⟩
    | false =>
      simp only [Bool.false_eq_true, if_false]
      cases h2 : ((turnP s.x (treeR vecC vecN l s.a).1).2 != 0) with
      | true =>
        left
        simp only [if_true]
        exact ⟨by simpa using h2, trivial⟩
      | false =>
        simp only [Bool.false_eq_true, if_false]
        rw [runS_cons]
        generalize hs1 : ({ s with a := s.a + (treeR vecC vecN l s.a).2.1, mx := (turnP s.x (treeR vecC vecN l s.a).1).1 } : RdS) = s1
        have ha1 : ahdS s1 3 = s1 := by unfold ahdS; rw [if_neg (by omega)]
        have sa : s1.a = s.a + (treeR vecC vecN l s.a).2.1 := by rw [← hs1]
        have sy : s1.y = s.y := by rw [← hs1]
        have e3 : vgetP l (s.a + (treeR vecC vecN l s.a).2.1) s.y = if (treeR vecC vecN l s1.a).2.2 != 0 then (0, 0, (treeR vecC vecN l s1.a).2.2) else ((turnP s1.y (treeR vecC vecN l s1.a).1).1, s1.a + (treeR vecC vecN l s1.a).2.1, (turnP s1.y (treeR vecC vecN l s1.a).1).2) := by rw [sa, sy]; rfl
        have s3 : stpS l s1 3 = if (treeR vecC vecN l s1.a).2.2 != 0 then ((s1, []), (treeR vecC vecN l s1.a).2.2) else (({ s1 with a := s1.a + (treeR vecC vecN l s1.a).2.1, my := (turnP s1.y (treeR vecC vecN l s1.a).1).1 }, []), (turnP s1.y (treeR vecC vecN l s1.a).1).2) := rfl
        rw [ha1, e3, s3]
        cases h3 : ((treeR vecC vecN l s1.a).2.2 != 0) with
        | true =>
          left
          simp only [if_true, h3]
          exact ⟨by simpa using h3, trivial⟩
        | false =>
          simp only [Bool.false_eq_true, if_false]
          cases h4 : ((turnP s1.y (treeR vecC vecN l s1.a).1).2 != 0) with
          | true =>
            left
            simp only [if_true]
            exact ⟨by simpa using h4, trivial⟩
          | false =>
            right
            simp only [Bool.false_eq_true, if_false]
            refine ⟨trivial, ?_⟩
            rw [← hs1]
            rfl
theorem pIC {k : Int} (h : pC k = true) : pI k = false := by
  unfold pC at h
  unfold pI
  simp only [Bool.or_eq_true, beq_iff_eq] at h
  rcases h with ((((h | h) | h) | h) | h) | h <;> subst h <;> rfl
theorem run_c (l : List UInt8) (kd : Int) (s : RdS) (hp : s.pt.1 = pI kd) (h0 : s.pa = 0) : (mc l kd s.a).2.2 ≠ 0 ∧ (runS l (if pC kd then [4] else []) s []).2 = (mc l kd s.a).2.2 ∨
    (mc l kd s.a).2.2 = 0 ∧ ∃ s', runS l (if pC kd then [4] else []) s [] = ((s', []), 0) ∧ (ahdS s' 5).pa = (mc l kd s.a).1 ∧ s' = { s with a := (mc l kd s.a).2.1, pa := s'.pa } ∧ (pI kd = false → s'.pa = (mc l kd s.a).1) := by
  unfold mc
  cases hc : pC kd with
  | false =>
    right
    simp only [Bool.false_eq_true, if_false]
    refine ⟨trivial, s, rfl, ?_, rfl, fun h => by rw [h0, h]; rfl⟩
    unfold ahdS
    rw [hp]
    cases hI : pI kd <;> simp [h0]
  | true =>
    have hI := pIC hc
    rw [hI] at hp
    rw [if_pos rfl, if_pos rfl, runS_cons]
    have ha : ahdS s 4 = s := by unfold ahdS; rw [hp, if_neg (by simp)]
    have s4 : stpS l s 4 = (({ s with a := s.a + (treeR patC patN l s.a).2.1, pa := (treeR patC patN l s.a).1 }, []), (treeR patC patN l s.a).2.2) := rfl
    rw [ha, s4]
    dsimp only
    cases h1 : ((treeR patC patN l s.a).2.2 != 0) with
    | true =>
      left
      simp only [if_true]
      exact ⟨by simpa using h1, trivial⟩
    | false =>
      right
      simp only [Bool.false_eq_true, if_false]
      refine ⟨trivial, _, rfl, ?_, rfl, fun _ => rfl⟩
      unfold ahdS
      dsimp only
      rw [hp, if_neg (by simp)]
theorem kindN_in : kindN.all inK = true := by kernel_rfl
theorem nxtS_app (s : RdS) (kd : Int) (h : s.pt = (pI kd, pQ kd, pV kd, pF kd, pC kd)) : nxtS s = ((if pQ kd then [1] else []) ++ (if pV kd then [2, 3] else [])) ++ (if pC kd then [4] else []) := by unfold nxtS; rw [h]
def rd0 (i ad : Int) (x : LastM) (v : Value) : RdS := ⟨i, (false, false, false, false, false), ad, 0, 0, 0, 0, 0, v, (predP ad (ad - x.ad) x.had x.x x.y).1, (predP ad (ad - x.ad) x.had x.x x.y).2⟩
theorem treeR_mem {cs : List (List UInt8)} {ns : List Int} {l : List UInt8} {i : Int} (h : (treeR cs ns l i).2.2 = 0) : (treeR cs ns l i).1 ∈ ns := by
  unfold treeR at h ⊢
  split at h
  · cases h
  · rename_i hi
    rw [if_neg hi]
    unfold getT at h ⊢
    cases hf : findR (bitsL l i.toNat (min 24 (8 * l.length - i.toNat))) cs ns with
    | some p => obtain ⟨n, k⟩ := p; exact (findR_ok hf).1
    | none =>
      rw [hf] at h
      dsimp only at h
      split at h <;> cases h
theorem mget_all (l : List UInt8) (i ad : Int) (x : LastM) (v : Value) (hi : ¬ (i < 0 ∨ ad < 1 ∨ 33 < ad)) (ha : aheadB x ad = true) :
    ((mgetP l i ad x).2.2 ≠ 0 ∧ mgetP l i ad x = (m0, 0, (rdAll l (rd0 i ad x v)).2) ∧ (rdAll l (rd0 i ad x v)).2 ≠ 0) ∨
    ((rdAll l (rd0 i ad x v)).2 = 0 ∧ ∃ s bl, (rdAll l (rd0 i ad x v)).1 = (s, bl) ∧ mgetP l i ad x = (⟨ad, s.kd, s.qu, s.mx, s.my, s.pa, bl⟩, s.a - i, 0)) := by
  have e0 : mgetP l i ad x = (let pr := predP ad (ad - x.ad) x.had x.x x.y
      let k := treeR kindC kindN l i
      if k.2.2 != 0 then (m0, 0, k.2.2) else
      let q := mq l k.1 (i + k.2.1)
      if q.2.2 != 0 then (m0, 0, q.2.2) else
      let v := mv l k.1 q.2.1 pr.1 pr.2
      if v.2.2 != 0 then (m0, 0, v.2.2) else
      let c := mc l k.1 v.2.1
      if c.2.2 != 0 then (m0, 0, c.2.2) else
      let b := bgets l (pI k.1) (cntP c.1) c.2.1
      if b.2.2 != 0 then (m0, 0, b.2.2) else (⟨ad, k.1, q.1, v.1.1, v.1.2, c.1, b.1⟩, b.2.1 - i, 0)) := by
    unfold mgetP
    rw [if_neg hi, ha]
    rfl
  rw [e0]
  unfold rdAll
  have s0 : stpS l (rd0 i ad x v) 0 = (({ rd0 i ad x v with a := i + (treeR kindC kindN l i).2.1, kd := (treeR kindC kindN l i).1, pt := ptK (treeR kindC kindN l i).1 }, []), (treeR kindC kindN l i).2.2) := rfl
  rw [s0]
  dsimp only
  cases hk : ((treeR kindC kindN l i).2.2 != 0) with
  | true =>
    left
    simp only [if_true]
    exact ⟨by simpa using hk, trivial, by simpa using hk⟩
  | false =>
    simp only [Bool.false_eq_true, if_false]
    have hin : inK (treeR kindC kindN l i).1 = true := List.all_eq_true.1 kindN_in _ (treeR_mem (by simpa using hk))
    generalize hs1 : ({ rd0 i ad x v with a := i + (treeR kindC kindN l i).2.1, kd := (treeR kindC kindN l i).1, pt := ptK (treeR kindC kindN l i).1 } : RdS) = s1
    obtain ⟨kd, hkd⟩ : ∃ kd, (treeR kindC kindN l i).1 = kd := ⟨_, rfl⟩
    rw [hkd] at hs1 hin ⊢
    have hpt : s1.pt = (pI kd, pQ kd, pV kd, pF kd, pC kd) := by rw [← hs1]; show ptK kd = _; unfold ptK; rw [hin, if_pos rfl]
    have f1 : s1.a = i + (treeR kindC kindN l i).2.1 := by rw [← hs1]
    have f2 : s1.x = (predP ad (ad - x.ad) x.had x.x x.y).1 := by rw [← hs1]; rfl
    have f3 : s1.y = (predP ad (ad - x.ad) x.had x.x x.y).2 := by rw [← hs1]; rfl
    have f4 : s1.ad = ad := by rw [← hs1]; rfl
    have f5 : s1.kd = kd := by rw [← hs1]
    have g1 : s1.qu = 0 := by rw [← hs1]; rfl
    have g2 : s1.mx = 0 := by rw [← hs1]; rfl
    have g3 : s1.my = 0 := by rw [← hs1]; rfl
    have g4 : s1.pa = 0 := by rw [← hs1]; rfl
    clear hs1
    rw [nxtS_app s1 kd hpt, runS_app, runS_app, ← f1, ← f2, ← f3]
    rcases run_q l kd s1 g1 with ⟨h1, h2⟩ | ⟨h1, h2⟩
    · left
      have h3 : ((mq l kd s1.a).2.2 != 0) = true := by simpa using h1
      simp only [h2, h3, if_true]
      exact ⟨h1, trivial, h1⟩
    · rw [h2]
      have h3 : ((mq l kd s1.a).2.2 != 0) = false := by simpa using h1
      simp only [h3, Bool.false_eq_true, if_false, bne_self_eq_false]
      generalize hs2 : ({ s1 with a := (mq l kd s1.a).2.1, qu := (mq l kd s1.a).1 } : RdS) = s2
      have p1 : (mq l kd s1.a).2.1 = s2.a := by rw [← hs2]
      have p2 : (mq l kd s1.a).1 = s2.qu := by rw [← hs2]
      have p3 : s1.x = s2.x := by rw [← hs2]
      have p4 : s1.y = s2.y := by rw [← hs2]
      have p5 : s2.pt = (pI kd, pQ kd, pV kd, pF kd, pC kd) := by rw [← hs2]; exact hpt
      have p6 : s2.mx = 0 := by rw [← hs2]; exact g2
      have p7 : s2.my = 0 := by rw [← hs2]; exact g3
      have p8 : s2.pa = 0 := by rw [← hs2]; exact g4
      have p9 : s2.kd = kd := by rw [← hs2]; exact f5
      rw [p1, p2, p3, p4]
      clear hs2 h1 h2 h3 p1 p2 p3 p4 g1 g2 g3 g4 f1 f2 f3 f4 f5 hpt
      rcases run_v l kd s2 p6 p7 with ⟨h1, h2⟩ | ⟨h1, h2⟩
      · left
        have h3 : ((mv l kd s2.a s2.x s2.y).2.2 != 0) = true := by simpa using h1
        simp only [h2, h3, if_true]
        exact ⟨h1, trivial, h1⟩
      · rw [h2]
        have h3 : ((mv l kd s2.a s2.x s2.y).2.2 != 0) = false := by simpa using h1
        simp only [h3, Bool.false_eq_true, if_false, bne_self_eq_false]
        generalize hs3 : ({ s2 with a := (mv l kd s2.a s2.x s2.y).2.1, mx := (mv l kd s2.a s2.x s2.y).1.1, my := (mv l kd s2.a s2.x s2.y).1.2 } : RdS) = s3
        have r1 : (mv l kd s2.a s2.x s2.y).2.1 = s3.a := by rw [← hs3]
        have r2 : (mv l kd s2.a s2.x s2.y).1.1 = s3.mx := by rw [← hs3]
        have r3 : (mv l kd s2.a s2.x s2.y).1.2 = s3.my := by rw [← hs3]
        have r4 : s2.qu = s3.qu := by rw [← hs3]
        have r5 : s3.pt = (pI kd, pQ kd, pV kd, pF kd, pC kd) := by rw [← hs3]; exact p5
        have r8 : s3.pa = 0 := by rw [← hs3]; exact p8
        have r9 : s3.kd = kd := by rw [← hs3]; exact p9
        rw [r1, r2, r3, r4]
        clear hs3 h1 h2 h3 r1 r2 r3 r4 p5 p6 p7 p8 p9
        rcases run_c l kd s3 (by rw [r5]) r8 with ⟨h1, h2⟩ | ⟨h1, s4, h2, h4, h5, h6⟩
        · left
          have h3 : ((mc l kd s3.a).2.2 != 0) = true := by simpa using h1
          simp only [h2, h3, if_true]
          exact ⟨h1, trivial, h1⟩
        · rw [h2]
          have h3 : ((mc l kd s3.a).2.2 != 0) = false := by simpa using h1
          simp only [h3, Bool.false_eq_true, if_false, bne_self_eq_false]
          rw [h4]
          have t1 : (mc l kd s3.a).2.1 = s4.a := by rw [h5]
          have t2 : s4.pt.1 = pI kd := by rw [h5]; show s3.pt.1 = _; rw [r5]
          have t3 : s4.qu = s3.qu := by rw [h5]
          have t4 : s4.mx = s3.mx := by rw [h5]
          have t5 : s4.my = s3.my := by rw [h5]
          have t6 : s4.kd = kd := by rw [h5]; exact r9
          rw [t1, ← t2]
          rcases run_blocks l (cntP (mc l kd s3.a).1) s4 [] with ⟨k1, k2⟩ | ⟨k1, k2, k3, k4, k5, k6, k7, k8, k9, k10⟩
          · left
            have k3 : ((bgets l s4.pt.1 (cntP (mc l kd s3.a).1) s4.a).2.2 != 0) = true := by simpa using k1
            rw [k3, if_pos rfl, k2]
            exact ⟨k1, rfl, k1⟩
          · right
            have k11 : ((bgets l s4.pt.1 (cntP (mc l kd s3.a).1) s4.a).2.2 != 0) = false := by simpa using k1
            rw [k11, if_neg (by decide)]
            refine ⟨k2, _, _, rfl, ?_⟩
            rw [k3, k4, k6, k7, k8, k9, k10, t3, t4, t5, t6, h4, List.nil_append]
            congr 2
            split
            · rename_i hz
              cases hI : pI kd with
              | false => exact (h6 hI).symm
              | true =>
                exfalso
                have hC : pC kd = false := by
                  cases hc : pC kd with
                  | false => rfl
                  | true => rw [pIC hc] at hI; cases hI
                have e63 : (mc l kd s3.a).1 = 63 := by unfold mc; rw [hC, hI]; rfl
                rw [e63] at hz
                revert hz
                decide
            · rfl
end Go.Proofs.YtcojnigkgbmbmaaGreatDoor
namespace Go.Proofs.YtcojnigkgbmbmaaGreatDoor
open Go Go.RowKit
/-- a reader that a call has made itself (of the start world w0), with its blocks xs. -/
structure RdW (w0 : World) (g : Nat) (A : Option Addr) (n c : Nat) (s : RdS) (xs : List BkE) (W : World) : Prop where
  below : Below w0.heap.size w0 W
  cell : Blk W g 61 (rdC A n c s)
  row : W.ownsRow w0.heap.size 81 2 s.v xs.length (rowC bkC xs)
  bl : ∀ p ∈ xs, W.ownsRow w0.heap.size 109 2 (.slice p.2.1 p.1.l.length p.2.2) p.1.l.length (rowC pairC p.1.l)
theorem own_keep {W W' : World} {base e size n : Nat} {v : Value} {xs : List Value} (h : W.ownsRow base e size v n xs) (hk : ∀ (g : Nat) (cs : Array Value), Blk W g e cs → Blk W' g e cs) : W'.ownsRow base e size v n xs := by
  refine ⟨h.1, ?_⟩
  rcases h.2 with h1 | ⟨g, cap, cur, h1, h2, h3, h4⟩
  · exact .inl h1
  · exact .inr ⟨g, cap, cur, h1, h2, hk g cur h3, h4⟩
theorem RdW.mono {w0 W W' : World} {g : Nat} {A : Option Addr} {n c : Nat} {s : RdS} {xs : List BkE} (h : RdW w0 g A n c s xs W) (hb : Below W.heap.size W W') : RdW w0 g A n c s xs W' :=
  ⟨h.below.trans (hb.mono h.below.size), h.cell.below hb h.cell.lt, own_below h.row hb (Nat.le_refl _), fun p hp => own_below (h.bl p hp) hb (Nat.le_refl _)⟩
/-- a step that turns the reader's cells alone. -/
theorem RdW.turn {w0 W W' : World} {g : Nat} {A : Option Addr} {n c : Nat} {s s' : RdS} {xs : List BkE} (h : RdW w0 g A n c s xs W) (hg : w0.heap.size ≤ g) (ht : TurnG g W W') (hc : Blk W' g 61 (rdC A n c s')) (hv : s'.v = s.v) : RdW w0 g A n c s' xs W' := by
  have hk : ∀ (e : TypeId), e ≠ 61 → ∀ (g' : Nat) (cs : Array Value), Blk W g' e cs → Blk W' g' e cs := fun e he g' cs hb => ht.blk hb (fun hgg => by subst hgg; exact blk_ne hb h.cell he rfl)
  refine ⟨?_, hc, ?_, fun p hp => own_keep (h.bl p hp) (hk _ (by simp))⟩
  · exact h.below.trans ⟨ht.os, ht.tape, ht.output, ht.size, fun k hk2 => ht.block k (Nat.lt_of_lt_of_le hk2 h.below.size) (by omega)⟩
  · rw [hv]
    exact own_keep h.row (hk _ (by simp))
/-- a step that appends a block. -/
theorem RdW.block {w0 W W' : World} {g : Nat} {A : Option Addr} {n c : Nat} {s : RdS} {xs : List BkE} {r : BlkM × Int × Int} {a2 : Int} {e : Ending} (h : RdW w0 g A n c s xs W) (hp : RdBPost w0 g A n c s xs r a2 W e W') :
    ∃ v A2 c2, RdW w0 g A n c { s with a := a2, v := v } (xs ++ [(r.1, A2, c2)]) W' := by
  obtain ⟨v, A2, c2, h1, h2, h3⟩ := hp.ex
  refine ⟨v, A2, c2, hp.below, h1, by rw [List.length_append]; exact h2, fun p hpm => ?_⟩
  rcases List.mem_append.1 hpm with hpm | hpm
  · exact own_keep (h.bl p hpm) (fun g' cs hb => hp.keep g' _ cs hb (by simp) (fun hgg => by subst hgg; exact blk_ne hb h.cell (by simp) rfl))
  · rw [List.mem_singleton] at hpm
    subst hpm
    exact h3
end Go.Proofs.YtcojnigkgbmbmaaGreatDoor
namespace Go.Proofs.YtcojnigkgbmbmaaGreatDoor
open Go Go.RowKit
/-- the steps that rdAll runs through. -/
def tagsS (l : List UInt8) (s : RdS) : List Nat := 0 :: (nxtS (stpS l s 0).1.1 ++ List.replicate (cntP (ahdS (runS l (nxtS (stpS l s 0).1.1) (stpS l s 0).1.1 []).1.1 5).pa) 5)
theorem rdAll_run (l : List UInt8) (s : RdS) : rdAll l s = runS l (tagsS l s) s [] := by
  unfold rdAll tagsS
  rw [runS_cons, show ahdS s 0 = s by unfold ahdS; rw [if_neg (by omega)]]
  dsimp only
  have h0 : (stpS l s 0).1.2 = [] := rfl
  rw [h0, List.append_nil]
  split
  · rw [← h0]
  · rw [runS_app]
theorem runS_snoc (l : List UInt8) {ts : List Nat} {t : Nat} {s s' : RdS} {bl bl' : List BlkM} (h : runS l ts s bl = ((s', bl'), 0)) : runS l (ts ++ [t]) s bl = (((stpS l (ahdS s' t) t).1.1, bl' ++ (stpS l (ahdS s' t) t).1.2), (stpS l (ahdS s' t) t).2) := by
  rw [runS_app, h]
  dsimp only
  rw [if_neg (by decide), runS_cons]
  split
  · rfl
  · rename_i he
    have : (stpS l (ahdS s' t) t).2 = 0 := by simpa using he
    rw [this]
    rfl
theorem runS_pre (l : List UInt8) {ts TL : List Nat} {t : Nat} {s s' : RdS} {bl bl' : List BlkM} (h : runS l ts s bl = ((s', bl'), 0)) (hp : ts ++ [t] <+: TL) (he : (stpS l (ahdS s' t) t).2 ≠ 0) : (runS l TL s bl).2 = (stpS l (ahdS s' t) t).2 := by
  obtain ⟨us, rfl⟩ := hp
  rw [runS_app, runS_snoc l h, if_pos (by simpa using he)]
theorem ahd_keep (s : RdS) (t : Nat) : (ahdS s t).a = s.a ∧ (ahdS s t).x = s.x ∧ (ahdS s t).y = s.y ∧ (ahdS s t).pt = s.pt ∧ (ahdS s t).v = s.v := by unfold ahdS; split <;> simp
theorem stp_keep (l : List UInt8) (s : RdS) (t : Nat) : (stpS l s t).1.1.x = s.x ∧ (stpS l s t).1.1.y = s.y ∧ (t ≠ 0 → (stpS l s t).1.1.pt = s.pt) ∧ (stpS l s t).1.2.length ≤ 1 := by
  unfold stpS
  split
  · simp
  · split <;> simp
  · split <;> simp
  · split <;> simp
  · simp
  · simp
theorem stp_bnd (l : List UInt8) {s : RdS} {t : Nat} (h0 : 0 ≤ s.a) (h1 : s.a ≤ 8 * (l.length : Int)) (he : (stpS l s t).2 = 0) : 0 ≤ (stpS l s t).1.1.a ∧ (stpS l s t).1.1.a ≤ 8 * (l.length : Int) := by
  match t, he with
  | 0, _ =>
    have h := treeR_ok (cs := kindC) (ns := kindN) h0 h1
    show 0 ≤ s.a + _ ∧ s.a + _ ≤ _
    omega
  | 1, he =>
    by_cases hm : 8 * (l.length : Int) < s.a + 5
    · have hs : stpS l s 1 = (({ s with a := s.a + 5, qu := 0 }, []), 5) := if_pos hm
      rw [hs] at he
      cases he
    · have hs : stpS l s 1 = (({ s with a := s.a + 5, qu := ((numN l s.a.toNat 5 : Nat) : Int) }, []), if ((numN l s.a.toNat 5 : Nat) : Int) == 0 then 9 else 0) := if_neg hm
      rw [hs]
      show 0 ≤ s.a + 5 ∧ s.a + 5 ≤ _
      omega
  | 2, _ =>
    have h := treeR_ok (cs := vecC) (ns := vecN) h0 h1
    show 0 ≤ (if (treeR vecC vecN l s.a).2.2 != 0 then ((s, []), (treeR vecC vecN l s.a).2.2) else (({ s with a := s.a + (treeR vecC vecN l s.a).2.1, mx := (turnP s.x (treeR vecC vecN l s.a).1).1 }, ([] : List BlkM)), (turnP s.x (treeR vecC vecN l s.a).1).2)).1.1.a ∧ (if (treeR vecC vecN l s.a).2.2 != 0 then ((s, []), (treeR vecC vecN l s.a).2.2) else (({ s with a := s.a + (treeR vecC vecN l s.a).2.1, mx := (turnP s.x (treeR vecC vecN l s.a).1).1 }, ([] : List BlkM)), (turnP s.x (treeR vecC vecN l s.a).1).2)).1.1.a ≤ _
    split
    · exact ⟨h0, h1⟩
    · show 0 ≤ s.a + _ ∧ s.a + _ ≤ _
      omega
  | 3, _ =>
    have h := treeR_ok (cs := vecC) (ns := vecN) h0 h1
    show 0 ≤ (if (treeR vecC vecN l s.a).2.2 != 0 then ((s, []), (treeR vecC vecN l s.a).2.2) else (({ s with a := s.a + (treeR vecC vecN l s.a).2.1, my := (turnP s.y (treeR vecC vecN l s.a).1).1 }, ([] : List BlkM)), (turnP s.y (treeR vecC vecN l s.a).1).2)).1.1.a ∧ (if (treeR vecC vecN l s.a).2.2 != 0 then ((s, []), (treeR vecC vecN l s.a).2.2) else (({ s with a := s.a + (treeR vecC vecN l s.a).2.1, my := (turnP s.y (treeR vecC vecN l s.a).1).1 }, ([] : List BlkM)), (turnP s.y (treeR vecC vecN l s.a).1).2)).1.1.a ≤ _
    split
    · exact ⟨h0, h1⟩
    · show 0 ≤ s.a + _ ∧ s.a + _ ≤ _
      omega
  | 4, _ =>
    have h := treeR_ok (cs := patC) (ns := patN) h0 h1
    show 0 ≤ s.a + _ ∧ s.a + _ ≤ _
    omega
  | _ + 5, _ =>
    have h := bget_ok (intra := s.pt.1) h0 h1
    show 0 ≤ s.a + _ ∧ s.a + _ ≤ _
    omega
theorem runS_bnd (l : List UInt8) : ∀ (ts : List Nat) {s s' : RdS} {bl bl' : List BlkM}, runS l ts s bl = ((s', bl'), 0) → 0 ≤ s.a → s.a ≤ 8 * (l.length : Int) → 0 ≤ s'.a ∧ s'.a ≤ 8 * (l.length : Int) ∧ bl'.length ≤ bl.length + ts.length ∧ s'.x = s.x ∧ s'.y = s.y
  | [], s, s', bl, bl', h, h0, h1 => by
    simp only [runS, Prod.mk.injEq, and_true] at h
    obtain ⟨rfl, rfl⟩ := h
    exact ⟨h0, h1, by simp, rfl, rfl⟩
  | t :: ts, s, s', bl, bl', h, h0, h1 => by
    rw [runS_cons] at h
    split at h
    · rename_i he
      rw [(Prod.mk.inj h).2] at he
      cases he
    · rename_i he
      have he : (stpS l (ahdS s t) t).2 = 0 := by simpa using he
      obtain ⟨k1, k2, k3, _, _⟩ := ahd_keep s t
      obtain ⟨b0, b1⟩ := stp_bnd l (by rw [k1]; exact h0) (by rw [k1]; exact h1) he
      obtain ⟨c1, c2, c3, c4⟩ := stp_keep l (ahdS s t) t
      obtain ⟨d1, d2, d3, d4, d5⟩ := runS_bnd l ts h b0 b1
      refine ⟨d1, d2, ?_, by rw [d4, c1, k2], by rw [d5, c2, k3]⟩
      rw [List.length_append] at d3
      rw [List.length_cons]
      omega
theorem runS_xy (l : List UInt8) : ∀ (ts : List Nat) {s s' : RdS} {bl bl' : List BlkM}, runS l ts s bl = ((s', bl'), 0) → s'.x = s.x ∧ s'.y = s.y
  | [], s, s', bl, bl', h => by
    simp only [runS, Prod.mk.injEq, and_true] at h
    obtain ⟨rfl, rfl⟩ := h
    exact ⟨rfl, rfl⟩
  | t :: ts, s, s', bl, bl', h => by
    rw [runS_cons] at h
    split at h
    · rename_i he
      rw [(Prod.mk.inj h).2] at he
      cases he
    · obtain ⟨d4, d5⟩ := runS_xy l ts h
      obtain ⟨k1, k2, k3, _, _⟩ := ahd_keep s t
      obtain ⟨c1, c2, c3, c4⟩ := stp_keep l (ahdS s t) t
      exact ⟨by rw [d4, c1, k2], by rw [d5, c2, k3]⟩
theorem runS_pt (l : List UInt8) : ∀ (ts : List Nat) {s s' : RdS} {bl bl' : List BlkM}, runS l ts s bl = ((s', bl'), 0) → 0 ∉ ts → s'.pt = s.pt
  | [], s, s', bl, bl', h, _ => by
    simp only [runS, Prod.mk.injEq, and_true] at h
    obtain ⟨rfl, rfl⟩ := h
    rfl
  | t :: ts, s, s', bl, bl', h, hn => by
    rw [runS_cons] at h
    split at h
    · rename_i he
      rw [(Prod.mk.inj h).2] at he
      cases he
    · have := runS_pt l ts h (fun hm => hn (List.mem_cons_of_mem _ hm))
      rw [this, (stp_keep l (ahdS s t) t).2.2.1 (fun e => hn (by rw [e]; exact List.mem_cons_self ..)), (ahd_keep s t).2.2.2.1]
/-- behind the first step: its reader. -/
theorem runS_first (l : List UInt8) {ts : List Nat} {s s' : RdS} {bl' : List BlkM} (h : runS l (0 :: ts) s [] = ((s', bl'), 0)) : (stpS l s 0).2 = 0 ∧ runS l ts (stpS l s 0).1.1 [] = ((s', bl'), 0) := by
  rw [runS_cons, show ahdS s 0 = s by unfold ahdS; rw [if_neg (by omega)]] at h
  split at h
  · rename_i he
    rw [(Prod.mk.inj h).2] at he
    cases he
  · rename_i he
    exact ⟨by simpa using he, h⟩
/-- the parts that the kind tells, behind the first step and as many as follow. -/
theorem runS_pt0 (l : List UInt8) {ts : List Nat} {s s' : RdS} {bl' : List BlkM} (h : runS l (0 :: ts) s [] = ((s', bl'), 0)) (hn : 0 ∉ ts) : s'.pt = (stpS l s 0).1.1.pt := runS_pt l ts (runS_first l h).2 hn
theorem tags_len (l : List UInt8) (s : RdS) : (tagsS l s).length ≤ 11 := by
  have h : ∀ p : Int, cntP p ≤ 6 := fun p => by unfold cntP; split <;> omega
  have h2 : ∀ q : RdS, (nxtS q).length ≤ 4 := fun q => by unfold nxtS; (repeat' split) <;> simp
  have a := h2 (stpS l s 0).1.1
  unfold tagsS
  rw [List.length_cons, List.length_append, List.length_replicate]
  have b := h (ahdS (runS l (nxtS (stpS l s 0).1.1) (stpS l s 0).1.1 []).1.1 5).pa
  omega
/-- the steps ahead of the blocks: what tagsS goes through once the parts are known. -/
theorem tags_of (l : List UInt8) {s s' : RdS} {bl' : List BlkM} (h : runS l (0 :: nxtS (stpS l s 0).1.1) s [] = ((s', bl'), 0)) : tagsS l s = 0 :: (nxtS (stpS l s 0).1.1 ++ List.replicate (cntP (ahdS s' 5).pa) 5) := by
  unfold tagsS
  rw [(runS_first l h).2]
theorem ahd5 (l : List UInt8) (s : RdS) : ahdS (stpS l (ahdS s 5) 5).1.1 5 = (stpS l (ahdS s 5) 5).1.1 := by
  have e : (stpS l (ahdS s 5) 5).1.1 = { ahdS s 5 with a := (ahdS s 5).a + (bgetP l (ahdS s 5).a (ahdS s 5).pt.1).2.1 } := rfl
  rw [e]
  by_cases hI : s.pt.1 = true
  · have h1 : ahdS s 5 = { s with pa := 63 } := by unfold ahdS; rw [if_pos ⟨by decide, hI⟩]
    rw [h1]
    unfold ahdS
    rw [if_pos ⟨by decide, hI⟩]
  · have h1 : ahdS s 5 = s := by unfold ahdS; rw [if_neg (fun h => hI h.2)]
    rw [h1]
    unfold ahdS
    rw [if_neg (fun h => hI h.2)]
theorem runS_end5 (l : List UInt8) {ts : List Nat} {s s' : RdS} {bl bl' : List BlkM} (h : runS l (ts ++ [5]) s bl = ((s', bl'), 0)) : ahdS s' 5 = s' := by
  rw [runS_app] at h
  split at h
  · rename_i he
    rw [h] at he
    cases he
  · rw [runS_cons] at h
    split at h
    · rename_i he
      rw [(Prod.mk.inj h).2] at he
      cases he
    · have e := (Prod.mk.inj (Prod.mk.inj h).1).1
      rw [← e]
      exact ahd5 l _
theorem ahd_low (s : RdS) {t : Nat} (h : t < 4) : ahdS s t = s := by unfold ahdS; rw [if_neg (by omega)]
theorem ahd_45 (s : RdS) : ahdS s 4 = ahdS s 5 := by unfold ahdS; simp
end Go.Proofs.YtcojnigkgbmbmaaGreatDoor
namespace Go.Proofs.YtcojnigkgbmbmaaGreatDoor
open Go Go.RowKit
structure StpPost (w0 : World) (g : Nat) (A : Option Addr) (n c : Nat) (l : List UInt8) (s : RdS) (xs : List BkE) (t : Nat) (W : World) (e : Ending) (W' : World) : Prop where
  ret : e = .returned (.int .i64 (stpS l s t).2)
  ex : ∃ v xs', RdW w0 g A n c { (stpS l s t).1.1 with v := v } xs' W' ∧ xs'.map (·.1) = xs.map (·.1) ++ (stpS l s t).1.2
  keep : ∀ (g' : Nat) (ty : TypeId) (cs : Array Value), Blk W g' ty cs → ty ≠ 81 → g' ≠ g → Blk W' g' ty cs
  from_ : ∀ B' : Nat, KeepsFrom B' W W'
theorem turn_kf {g B : Nat} {W W' : World} {t : TypeId} {cs : Array Value} (h : TurnG g W W') (hb : Blk W g t cs) : KeepsFrom B W W' :=
  ⟨h.size, fun k o _ hk ho => (h.block k (Array.getElem?_eq_some_iff.1 hk).1 (fun e => by
    subst e
    have h2 : W.heap[k]? = some (.cells cs t (0, 0)) := hb
    rw [h2] at hk
    cases hk
    cases ho)).trans hk⟩
theorem stp_turn {w0 W W' : World} {g : Nat} {A : Option Addr} {n c : Nat} {l : List UInt8} {s : RdS} {xs : List BkE} {t : Nat} {e : Ending} (h : RdW w0 g A n c s xs W) (hg : w0.heap.size ≤ g) (ht : TurnG g W W') (he : e = .returned (.int .i64 (stpS l s t).2)) (hc : Blk W' g 61 (rdC A n c (stpS l s t).1.1)) (hv : (stpS l s t).1.1.v = s.v) (hbl : (stpS l s t).1.2 = []) : StpPost w0 g A n c l s xs t W e W' :=
  ⟨he, ⟨(stpS l s t).1.1.v, xs, h.turn hg ht hc hv, by rw [hbl, List.append_nil]⟩, fun g' ty cs hb _ hne => ht.blk hb hne, fun B' => turn_kf ht h.cell⟩
section
variable {w0 W : World} {g : Nat} {A : Option Addr} {n c : Nat} {l : List UInt8} {s : RdS} {xs : List BkE}
theorem wrap_ok {a k : Int} {m : Nat} (h0 : 0 ≤ a) (hk : 0 ≤ k) (h1 : a + k ≤ 8 * (m : Int) + 5) (hm : m ≤ 2 ^ 47) : IntKind.i64.wrap (a + k) = a + k := by rw [IntKind.wrap_i64]; omega
theorem stp_kind (h : RdW w0 g A n c s xs W) (hg : w0.heap.size ≤ g) (hA : Sl w0 A (l.map byteV)) (hn : l.length = n) (hsz : n ≤ 2 ^ 47) (h0 : 0 ≤ s.a) (h1 : s.a ≤ 8 * (l.length : Int)) :
    Calls Tryz.prog 72 #[.pointer (some ⟨g, 0, none⟩)] W (StpPost w0 g A n c l s xs 0 W) := by
  obtain ⟨a, b, _⟩ := treeR_ok (cs := kindC) (ns := kindN) h0 h1
  refine (rd_kind g A n c l s W h.cell (hA.below h.below) hn hsz (by omega) _ (wrap_ok (m := l.length) h0 a (by omega) (by omega))).mono ?_
  rintro e W' ⟨rfl, hc, ht⟩
  exact stp_turn h hg ht rfl hc rfl rfl
theorem stp_quant (h : RdW w0 g A n c s xs W) (hg : w0.heap.size ≤ g) (hA : Sl w0 A (l.map byteV)) (hn : l.length = n) (hsz : n ≤ 2 ^ 47) (h0 : 0 ≤ s.a) (h1 : s.a ≤ 8 * (l.length : Int)) :
    Calls Tryz.prog 73 #[.pointer (some ⟨g, 0, none⟩)] W (StpPost w0 g A n c l s xs 1 W) := by
  have hw : IntKind.i64.wrap (s.a + 5) = s.a + 5 := wrap_ok (m := n) h0 (by decide) (by omega) hsz
  by_cases hm : 8 * (l.length : Int) < s.a + 5
  · have hs : stpS l s 1 = (({ s with a := s.a + 5, qu := 0 }, []), 5) := if_pos hm
    refine (rd_quant g A n c l s W h.cell (hA.below h.below) 0 5 (s.a + 5) (fun W2 _ => (bits_Read_more A n c s.a 5 W2 h0 (by decide) (by decide) (by omega) hsz).mono (fun e w' hh => hh)) hw (.inr rfl)).mono ?_
    rintro e W' ⟨rfl, hc, ht⟩
    exact stp_turn h hg ht (by rw [hs]; rfl) (by rw [hs]; exact hc) (by rw [hs]) (by rw [hs])
  · have hs : stpS l s 1 = (({ s with a := s.a + 5, qu := ((numN l s.a.toNat 5 : Nat) : Int) }, []), if ((numN l s.a.toNat 5 : Nat) : Int) == 0 then 9 else 0) := if_neg hm
    refine (rd_quant g A n c l s W h.cell (hA.below h.below) ((numN l s.a.toNat 5 : Nat) : Int) 0 (s.a + 5) (fun W2 hW2 => bits_Read_v _ A n c l s.a 5 W2 rfl hW2 hn h0 (by decide) (by decide) (by omega) hsz) hw (.inl rfl)).mono ?_
    rintro e W' ⟨rfl, hc, ht⟩
    exact stp_turn h hg ht (by rw [hs]; rfl) (by rw [hs]; exact hc) (by rw [hs]) (by rw [hs])
theorem stp_pattern (h : RdW w0 g A n c s xs W) (hg : w0.heap.size ≤ g) (hA : Sl w0 A (l.map byteV)) (hT : Ts w0) (hn : l.length = n) (hsz : n ≤ 2 ^ 47) (h0 : 0 ≤ s.a) (h1 : s.a ≤ 8 * (l.length : Int)) :
    Calls Tryz.prog 75 #[.pointer (some ⟨g, 0, none⟩)] W (StpPost w0 g A n c l s xs 4 W) := by
  obtain ⟨a, b, _⟩ := treeR_ok (cs := patC) (ns := patN) h0 h1
  refine (rd_pattern g A n c l s W h.cell (hT.below h.below) (hA.below h.below) hn hsz (by omega) _ (wrap_ok (m := l.length) h0 a (by omega) (by omega))).mono ?_
  rintro e W' ⟨rfl, hc, ht⟩
  exact stp_turn h hg ht rfl hc rfl rfl
theorem stp_block (h : RdW w0 g A n c s xs W) (hg : w0.heap.size ≤ g) (hA : Sl w0 A (l.map byteV)) (hT : Ts w0) (hn : l.length = n) (hsz : n ≤ 2 ^ 47) (h0 : 0 ≤ s.a) (h1 : s.a ≤ 8 * (l.length : Int)) (hx : xs.length ≤ 100) :
    Calls Tryz.prog 76 #[.pointer (some ⟨g, 0, none⟩)] W (StpPost w0 g A n c l s xs 5 W) := by
  obtain ⟨a, b⟩ := bget_ok (intra := s.pt.1) h0 h1
  refine (rd_block w0 g A n c l s xs W h.below hg h.cell (hT.below h.below) (hA.below h.below) hn hsz h.row hx _ (wrap_ok (m := l.length) h0 a (by omega) (by omega))).mono ?_
  intro e W' hp
  obtain ⟨v, A2, c2, hr⟩ := h.block hp
  exact ⟨hp.ret, ⟨v, _, hr, by rw [List.map_append]; rfl⟩, hp.keep, hp.from_⟩
theorem stp_partX {b0 b1 b2 : Nat} (h : RdW w0 g A n c s xs W) (hg : w0.heap.size ≤ g) (hA : Sl w0 A (l.map byteV)) (hn : l.length = n) (hsz : n ≤ 2 ^ 47) (h0 : 0 ≤ s.a) (h1 : s.a ≤ 8 * (l.length : Int)) (hp : partB s.x = true)
    (k0 : Blk W b0 57 #[.pointer (some ⟨g, 0, none⟩)]) (k1 : Blk W b1 3 #[.int .i64 s.x]) (k2 : Blk W b2 102 #[.pointer (some ⟨g, 10, none⟩)]) :
    Calls Tryz.prog 111 #[.pointer (some ⟨b0, 0, none⟩), .pointer (some ⟨b1, 0, none⟩), .pointer (some ⟨b2, 0, none⟩)] W (StpPost w0 g A n c l s xs 2 W) := by
  obtain ⟨a, b, _⟩ := treeR_ok (cs := vecC) (ns := vecN) h0 h1
  refine (rd_partX g b0 b1 b2 s.x A n c l s W h.cell k0 k1 k2 (hA.below h.below) hn hsz (by omega) hp (fun he => vec_get_ok h0 h1 he) _ (wrap_ok (m := l.length) h0 a (by omega) (by omega))).mono ?_
  rintro e W' (⟨hne, rfl, hc, ht⟩ | ⟨he, rfl, hc, ht⟩)
  · have hs : stpS l s 2 = ((s, []), (treeR vecC vecN l s.a).2.2) := if_pos (by simpa using hne)
    exact stp_turn h hg ht (by rw [hs]) (by rw [hs]; exact hc) (by rw [hs]) (by rw [hs])
  · have hs : stpS l s 2 = (({ s with a := s.a + (treeR vecC vecN l s.a).2.1, mx := (turnP s.x (treeR vecC vecN l s.a).1).1 }, []), (turnP s.x (treeR vecC vecN l s.a).1).2) := if_neg (by rw [he]; decide)
    exact stp_turn h hg ht (by rw [hs]) (by rw [hs]; exact hc) (by rw [hs]) (by rw [hs])
theorem stp_partY {b0 b1 b2 : Nat} (h : RdW w0 g A n c s xs W) (hg : w0.heap.size ≤ g) (hA : Sl w0 A (l.map byteV)) (hn : l.length = n) (hsz : n ≤ 2 ^ 47) (h0 : 0 ≤ s.a) (h1 : s.a ≤ 8 * (l.length : Int)) (hp : partB s.y = true)
    (k0 : Blk W b0 57 #[.pointer (some ⟨g, 0, none⟩)]) (k1 : Blk W b1 3 #[.int .i64 s.y]) (k2 : Blk W b2 102 #[.pointer (some ⟨g, 11, none⟩)]) :
    Calls Tryz.prog 111 #[.pointer (some ⟨b0, 0, none⟩), .pointer (some ⟨b1, 0, none⟩), .pointer (some ⟨b2, 0, none⟩)] W (StpPost w0 g A n c l s xs 3 W) := by
  obtain ⟨a, b, _⟩ := treeR_ok (cs := vecC) (ns := vecN) h0 h1
  refine (rd_partY g b0 b1 b2 s.y A n c l s W h.cell k0 k1 k2 (hA.below h.below) hn hsz (by omega) hp (fun he => vec_get_ok h0 h1 he) _ (wrap_ok (m := l.length) h0 a (by omega) (by omega))).mono ?_
  rintro e W' (⟨hne, rfl, hc, ht⟩ | ⟨he, rfl, hc, ht⟩)
  · have hs : stpS l s 3 = ((s, []), (treeR vecC vecN l s.a).2.2) := if_pos (by simpa using hne)
    exact stp_turn h hg ht (by rw [hs]) (by rw [hs]; exact hc) (by rw [hs]) (by rw [hs])
  · have hs : stpS l s 3 = (({ s with a := s.a + (treeR vecC vecN l s.a).2.1, my := (turnP s.y (treeR vecC vecN l s.a).1).1 }, []), (turnP s.y (treeR vecC vecN l s.a).1).2) := if_neg (by rw [he]; decide)
    exact stp_turn h hg ht (by rw [hs]) (by rw [hs]; exact hc) (by rw [hs]) (by rw [hs])
end
end Go.Proofs.YtcojnigkgbmbmaaGreatDoor
