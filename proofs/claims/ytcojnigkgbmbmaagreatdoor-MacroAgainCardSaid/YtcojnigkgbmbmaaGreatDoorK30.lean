/- RdP, RdB -/
import Derived.Test.YtcojnigkgbmbmaaGreatDoorK29
import Derived.Deep.DeepCutAuto
import Derived.Test.YtcojnigkgbmbmaaGreatDoorK19
namespace Go.Proofs.YtcojnigkgbmbmaaGreatDoor
open Go Go.RowKit
attribute [local go_sem] Oper.semAt_some
set_option maxRecDepth 100000 in
set_option maxHeartbeats 4000000 in
theorem rd_partX (g b0 b1 b2 : Nat) (fr : Int) (A : Option Addr) (n c : Nat) (l : List UInt8) (s : RdS) (w : World) (hb : Blk w g 61 (rdC A n c s)) (h0 : Blk w b0 57 #[.pointer (some ⟨g, 0, none⟩)]) (h1 : Blk w b1 3 #[.int .i64 fr]) (h2 : Blk w b2 102 #[.pointer (some ⟨g, 10, none⟩)])
    (hA : Sl w A (l.map byteV)) (hn : l.length = n) (hsz : n ≤ 2 ^ 47) (hi : -9223372036854775808 ≤ s.a ∧ s.a ≤ 9223372036854775807) (hp : partB fr = true) (hd : (treeR vecC vecN l s.a).2.2 = 0 → -16 ≤ (treeR vecC vecN l s.a).1 ∧ (treeR vecC vecN l s.a).1 ≤ 15) (a2 : Int) (ha2 : IntKind.i64.wrap (s.a + (treeR vecC vecN l s.a).2.1) = a2) :
    Calls Tryz.prog 111 #[.pointer (some ⟨b0, 0, none⟩), .pointer (some ⟨b1, 0, none⟩), .pointer (some ⟨b2, 0, none⟩)] w fun e w' =>
      ((treeR vecC vecN l s.a).2.2 ≠ 0 ∧ e = .returned (.int .i64 (treeR vecC vecN l s.a).2.2) ∧ Blk w' g 61 (rdC A n c s) ∧ TurnG g w w') ∨
      ((treeR vecC vecN l s.a).2.2 = 0 ∧ e = .returned (.int .i64 (turnP fr (treeR vecC vecN l s.a).1).2) ∧ Blk w' g 61 (rdC A n c { s with a := a2, mx := (turnP fr (treeR vecC vecN l s.a).1).1 }) ∧ TurnG g w w') := by
  obtain ⟨a, ⟨t0, t1, t2, t3, t4⟩, ad, kd, qu, mx, my, pa, v, x, y⟩ := s
  dsimp only at hi ha2 hd ⊢
  have G := Lib.hid (fun W hW => vector_Get A n c l a W hW hn hsz hi)
  have CT := Lib.hid (fun h3 W => vector_Turn fr (treeR vecC vecN l a).1 W hp (hd h3).1 (hd h3).2)
  obtain ⟨⟨rk, rn, re⟩, hr⟩ : ∃ r, treeR vecC vecN l a = r := ⟨_, rfl⟩
  rw [hr] at G CT ha2 ⊢
  dsimp only at G CT ha2 ⊢
  obtain ⟨⟨tv, te⟩, ht⟩ : ∃ r, turnP fr rk = r := ⟨_, rfl⟩
  rw [ht] at CT ⊢
  dsimp only at CT ⊢
  unfold rdC at *
  dsimp only at *
  have hg0 : g ≠ b0 := blk_ne hb h0 (by simp)
  have hg1 : g ≠ b1 := blk_ne hb h1 (by simp)
  have hg2 : g ≠ b2 := blk_ne hb h2 (by simp)
  have hw : IntKind.i64.wrap (a + rn) = a2 := ha2
  have hbd : Blk w.drew g 61 _ := hb.drewN 1
  have hd0 : Blk w.drew b0 57 _ := h0.drewN 1
  have hd1 : Blk w.drew b1 3 _ := h1.drewN 1
  have hd2 : Blk w.drew b2 102 _ := h2.drewN 1
  have y0 := hbd.cell 0; have y1 := hbd.cell 1; have y2 := hd0.cell 0
  have HBd := Lib.hid hbd; have HD0 := Lib.hid hd0; have HD1 := Lib.hid hd1; have HD2 := Lib.hid hd2
  have HAd := Lib.hid (show Sl w.drew A (l.map byteV) from hA)
  have HG0 := Lib.hid hg0; have HG1 := Lib.hid hg1; have HG2 := Lib.hid hg2
  clear hb hA hr hi ha2 hbd hn hsz hd0 hd1 hd2 h0 h1 h2 hd hp ht hg0 hg1 hg2
  go_enter Tryz.func111, Tryz.ntmps111
  go_wp2_with fail
  refine wp_region_treeN (fun w' => w'.cell? ⟨g, 0, none⟩ = some (.slice A n c) ∧ w'.cell? ⟨g, 1, none⟩ = some (.int .i64 a) ∧ w'.cell? ⟨b0, 0, none⟩ = some (.pointer (some ⟨g, 0, none⟩))) 15 (.take 0 (.take 1 (.take 2 (.take 3 (.take 4 (.take 5 (.take 6 (.take 7 (.step 8 (.take 9 (.take 10 (.take 11 (.take 12 (.step 13 (.step 14 .done))))))))))))))) (by kernel_rfl) (by kernel_rfl) (by simp only [Pln.out, Array.getD_eq_getD_getElem?, List.getElem?_toArray, List.getElem?_cons_zero, List.getElem?_cons_succ, Option.getD_some]; rfl) (by simp only [List.map_cons, List.map_nil]; rfl) (⟨y0, y1, y2⟩) (fun PE hPE => ?_)
  refine tree_take (v := ?_) rfl (by rfl) ?_ ?_
  rotate_left
  · intro _ hSw; (try dsimp only at hSw); obtain ⟨s0, s1, s2⟩ := hSw; go_simp; (try with_reducible rfl)
  simp only [List.setIfInBounds_toArray, List.set_cons_zero, List.set_cons_succ]
  refine tree_take (v := ?_) rfl (by rfl) ?_ ?_
  rotate_left
  · intro _ hSw; (try dsimp only at hSw); obtain ⟨s0, s1, s2⟩ := hSw; go_simp; (try with_reducible rfl)
  simp only [List.setIfInBounds_toArray, List.set_cons_zero, List.set_cons_succ]
  refine tree_take (v := ?_) rfl (by rfl) ?_ ?_
  rotate_left
  · intro _ hSw; (try dsimp only at hSw); obtain ⟨s0, s1, s2⟩ := hSw; go_simp; (try with_reducible rfl)
  simp only [List.setIfInBounds_toArray, List.set_cons_zero, List.set_cons_succ]
  refine tree_take (v := ?_) rfl (by rfl) ?_ ?_
  rotate_left
  · intro _ hSw; (try dsimp only at hSw); obtain ⟨s0, s1, s2⟩ := hSw; go_simp; (try with_reducible rfl)
  simp only [List.setIfInBounds_toArray, List.set_cons_zero, List.set_cons_succ]
  refine tree_take (v := ?_) rfl (by rfl) ?_ ?_
  rotate_left
  · intro _ hSw; (try dsimp only at hSw); obtain ⟨s0, s1, s2⟩ := hSw; go_simp; (try with_reducible rfl)
  simp only [List.setIfInBounds_toArray, List.set_cons_zero, List.set_cons_succ]
  refine tree_take (v := ?_) rfl (by rfl) ?_ ?_
  rotate_left
  · intro _ hSw; (try dsimp only at hSw); obtain ⟨s0, s1, s2⟩ := hSw; go_simp; (try with_reducible rfl)
  simp only [List.setIfInBounds_toArray, List.set_cons_zero, List.set_cons_succ]
  refine tree_take (v := ?_) rfl (by rfl) ?_ ?_
  rotate_left
  · intro _ hSw; (try dsimp only at hSw); obtain ⟨s0, s1, s2⟩ := hSw; go_simp; (try with_reducible rfl)
  simp only [List.setIfInBounds_toArray, List.set_cons_zero, List.set_cons_succ]
  refine tree_take (v := ?_) rfl (by rfl) ?_ ?_
  rotate_left
  · intro _ hSw; (try dsimp only at hSw); obtain ⟨s0, s1, s2⟩ := hSw; go_simp; (try with_reducible rfl)
  simp only [List.setIfInBounds_toArray, List.set_cons_zero, List.set_cons_succ]
  refine tree_call (f := 112) rfl (by rfl) (by first | (go_simp; done) | (go_simp; rfl)) (G.out _ HAd.out) ?_
  rintro e w2 ⟨rfl, hb2⟩
  have hL2 := HBd.out.below hb2 HBd.out.lt
  have hM0 := HD0.out.below hb2 HD0.out.lt
  have hM1 := HD1.out.below hb2 HD1.out.lt
  have hM2 := HD2.out.below hb2 HD2.out.lt
  have HT2 := Lib.hid (turn_then (turn_drew (Turn.refl (fun k => k = g) w)) hb2)
  refine ⟨_, rfl, _, fun _ h => h, ⟨hL2.cell 0, hL2.cell 1, hM0.cell 0⟩, ?_⟩
  simp only [List.setIfInBounds_toArray, List.set_cons_zero, List.set_cons_succ]
  refine tree_take (v := ?_) rfl (by rfl) ?_ ?_
  rotate_left
  · intro _ hSw; (try dsimp only at hSw); go_simp; (try with_reducible rfl)
  simp only [List.setIfInBounds_toArray, List.set_cons_zero, List.set_cons_succ]
  refine tree_take (v := ?_) rfl (by rfl) ?_ ?_
  rotate_left
  · intro _ hSw; (try dsimp only at hSw); go_simp; (try with_reducible rfl)
  simp only [List.setIfInBounds_toArray, List.set_cons_zero, List.set_cons_succ]
  refine tree_take (v := ?_) rfl (by rfl) ?_ ?_
  rotate_left
  · intro _ hSw; (try dsimp only at hSw); go_simp; (try with_reducible rfl)
  simp only [List.setIfInBounds_toArray, List.set_cons_zero, List.set_cons_succ]
  refine tree_take (v := ?_) rfl (by rfl) ?_ ?_
  rotate_left
  · intro _ hSw; (try dsimp only at hSw); go_simp; (try with_reducible rfl)
  simp only [List.setIfInBounds_toArray, List.set_cons_zero, List.set_cons_succ]
  refine tree_value (v := ?_) (w' := ?_) rfl (by rfl) ?_ ?_ ?_
  rotate_left 2
  · go_simp; (try (constructor <;> with_reducible rfl))
  · exact ⟨hL2.cell 0, hL2.cell 1, hM0.cell 0⟩
  simp only [List.setIfInBounds_toArray, List.set_cons_zero, List.set_cons_succ]
  refine tree_value (v := ?_) (w' := ?_) rfl (by rfl) ?_ ?_ ?_
  rotate_left 2
  · go_simp; (try (constructor <;> with_reducible rfl))
  · exact ⟨hL2.cell 0, hL2.cell 1, hM0.cell 0⟩
  simp only [List.setIfInBounds_toArray, List.set_cons_zero, List.set_cons_succ]
  refine hPE _ _ ?_
  clear hPE PE
  simp only [List.drop_succ_cons, List.drop_zero, List.drop_nil]
  have HL2 := Lib.hid hL2; have HM0 := Lib.hid hM0; have HM1 := Lib.hid hM1; have HM2 := Lib.hid hM2
  clear hL2 hM0 hM1 hM2 hb2 y0 y1 y2 HBd HD0 HD1 HD2 HAd G
  go_wp2_with fail
  refine ⟨rfl, ?_⟩
  cases he : (re != 0) with
  | true =>
    have hne : re ≠ 0 := by simpa using he
    have HNE := Lib.hid hne
    clear hne
    go_wp2_with fail
    go_ret
    exact .inl ⟨HNE.out, rfl, HL2.out, HT2.out⟩
  | false =>
    have he0 : re = 0 := by simpa using he
    subst he0
    have CT := Lib.hid (CT.out rfl)
    have z2 := HM0.out.cell 0
    have c1 : w2.cell? ⟨g, 1, none⟩ = some (.int .i64 a) := by rw [HL2.out.cell]; rfl
    have f1 := HL2.out.frozen 1
    have hL3 := HL2.out.set_ 1 (.int .i64 a2)
    simp only [List.setIfInBounds_toArray, List.set_cons_zero, List.set_cons_succ] at hL3
    have hN1 : Blk (World.drew (w2.setCell ⟨g, 1, none⟩ (.int .i64 a2))) b1 3 _ := (HM1.out.far (p := ⟨g, 1, none⟩) HG1.out.symm (.int .i64 a2)).drewN 1
    have hN2 : Blk (World.drew (w2.setCell ⟨g, 1, none⟩ (.int .i64 a2))) b2 102 _ := (HM2.out.far (p := ⟨g, 1, none⟩) HG2.out.symm (.int .i64 a2)).drewN 1
    have HL3 := Lib.hid hL3
    have HN1 := Lib.hid hN1; have HN2 := Lib.hid hN2
    have HT3 := Lib.hid (turn_set HT2.out 1 (.int .i64 a2))
    have u1 := hN1.cell 0; have u2 := hN2.cell 0
    clear hL3 hN1 hN2
    go_upto_region 5 with fail
    clear z2 c1 f1
    refine wp_region_treeN (fun w' => w'.cell? ⟨b1, 0, none⟩ = some (.int .i64 fr) ∧ w'.cell? ⟨b2, 0, none⟩ = some (.pointer (some ⟨g, 10, none⟩))) 9 (.take 0 (.take 1 (.take 2 (.step 3 (.take 4 (.take 5 (.take 6 (.take 7 (.step 8 .done))))))))) (by kernel_rfl) (by kernel_rfl) (by simp only [Pln.out, Array.getD_eq_getD_getElem?, List.getElem?_toArray, List.getElem?_cons_zero, List.getElem?_cons_succ, Option.getD_some]; rfl) (by simp only [List.map_cons, List.map_nil]; rfl) (⟨u1, u2⟩) (fun PE hPE => ?_)
    refine tree_take (v := ?_) rfl (by rfl) ?_ ?_
    rotate_left
    · intro _ hSw; (try dsimp only at hSw); obtain ⟨s1, s2⟩ := hSw; go_simp; (try with_reducible rfl)
    simp only [List.setIfInBounds_toArray, List.set_cons_zero, List.set_cons_succ]
    refine tree_take (v := ?_) rfl (by rfl) ?_ ?_
    rotate_left
    · intro _ hSw; (try dsimp only at hSw); obtain ⟨s1, s2⟩ := hSw; go_simp; (try with_reducible rfl)
    simp only [List.setIfInBounds_toArray, List.set_cons_zero, List.set_cons_succ]
    refine tree_take (v := ?_) rfl (by rfl) ?_ ?_
    rotate_left
    · intro _ hSw; (try dsimp only at hSw); obtain ⟨s1, s2⟩ := hSw; go_simp; (try with_reducible rfl)
    simp only [List.setIfInBounds_toArray, List.set_cons_zero, List.set_cons_succ]
    refine tree_call (f := 113) rfl (by rfl) (by first | (go_simp; done) | (go_simp; rfl)) (CT.out _) ?_
    rintro e w4 ⟨rfl, rfl⟩
    refine ⟨_, rfl, _, fun _ h => h, ⟨u1, u2⟩, ?_⟩
    simp only [List.setIfInBounds_toArray, List.set_cons_zero, List.set_cons_succ]
    refine tree_take (v := ?_) rfl (by rfl) ?_ ?_
    rotate_left
    · intro _ hSw; (try dsimp only at hSw); go_simp; (try with_reducible rfl)
    simp only [List.setIfInBounds_toArray, List.set_cons_zero, List.set_cons_succ]
    refine tree_take (v := ?_) rfl (by rfl) ?_ ?_
    rotate_left
    · intro _ hSw; (try dsimp only at hSw); go_simp; (try with_reducible rfl)
    simp only [List.setIfInBounds_toArray, List.set_cons_zero, List.set_cons_succ]
    refine tree_take (v := ?_) rfl (by rfl) ?_ ?_
    rotate_left
    · intro _ hSw; (try dsimp only at hSw); go_simp; (try with_reducible rfl)
    simp only [List.setIfInBounds_toArray, List.set_cons_zero, List.set_cons_succ]
    refine tree_take (v := ?_) rfl (by rfl) ?_ ?_
    rotate_left
    · intro _ hSw; (try dsimp only at hSw); go_simp; (try with_reducible rfl)
    simp only [List.setIfInBounds_toArray, List.set_cons_zero, List.set_cons_succ]
    have kk := HL3.out.cell 10; have fk := HL3.out.frozen 10
    have hL4 := HL3.out.set_ 10 (.int .i64 tv)
    simp only [List.setIfInBounds_toArray, List.set_cons_zero, List.set_cons_succ] at hL4
    have v1 := (HN1.out.far (p := ⟨g, 10, none⟩) HG1.out.symm (.int .i64 tv)).cell 0
    have v2 := (HN2.out.far (p := ⟨g, 10, none⟩) HG2.out.symm (.int .i64 tv)).cell 0
    refine tree_skip _ (w' := ?_) rfl (by rfl) ?_ ?_ ?_
    rotate_left 1
    · go_simp; (first | (with_reducible rfl) | (constructor <;> with_reducible rfl) | skip)
    · exact ⟨v1, v2⟩
    refine hPE _ _ ?_
    clear hPE PE
    simp only [List.drop_succ_cons, List.drop_zero, List.drop_nil]
    have hL5 : Blk (World.drew ((w2.setCell ⟨g, 1, none⟩ (.int .i64 a2)).setCell ⟨g, 10, none⟩ (.int .i64 tv))) g 61 _ := hL4.drewN 1
    have HT5 := Lib.hid (turn_drew (turn_set HT3.out 10 (.int .i64 tv)))
    clear v1 v2 kk fk u1 u2
    go_wp2_with fail
    refine ⟨rfl, ?_⟩
    go_wp2_with fail
    go_ret
    exact ⟨rfl, hL5, HT5.out⟩
set_option maxRecDepth 100000 in
set_option maxHeartbeats 4000000 in
theorem rd_partY (g b0 b1 b2 : Nat) (fr : Int) (A : Option Addr) (n c : Nat) (l : List UInt8) (s : RdS) (w : World) (hb : Blk w g 61 (rdC A n c s)) (h0 : Blk w b0 57 #[.pointer (some ⟨g, 0, none⟩)]) (h1 : Blk w b1 3 #[.int .i64 fr]) (h2 : Blk w b2 102 #[.pointer (some ⟨g, 11, none⟩)])
    (hA : Sl w A (l.map byteV)) (hn : l.length = n) (hsz : n ≤ 2 ^ 47) (hi : -9223372036854775808 ≤ s.a ∧ s.a ≤ 9223372036854775807) (hp : partB fr = true) (hd : (treeR vecC vecN l s.a).2.2 = 0 → -16 ≤ (treeR vecC vecN l s.a).1 ∧ (treeR vecC vecN l s.a).1 ≤ 15) (a2 : Int) (ha2 : IntKind.i64.wrap (s.a + (treeR vecC vecN l s.a).2.1) = a2) :
    Calls Tryz.prog 111 #[.pointer (some ⟨b0, 0, none⟩), .pointer (some ⟨b1, 0, none⟩), .pointer (some ⟨b2, 0, none⟩)] w fun e w' =>
      ((treeR vecC vecN l s.a).2.2 ≠ 0 ∧ e = .returned (.int .i64 (treeR vecC vecN l s.a).2.2) ∧ Blk w' g 61 (rdC A n c s) ∧ TurnG g w w') ∨
      ((treeR vecC vecN l s.a).2.2 = 0 ∧ e = .returned (.int .i64 (turnP fr (treeR vecC vecN l s.a).1).2) ∧ Blk w' g 61 (rdC A n c { s with a := a2, my := (turnP fr (treeR vecC vecN l s.a).1).1 }) ∧ TurnG g w w') := by
  obtain ⟨a, ⟨t0, t1, t2, t3, t4⟩, ad, kd, qu, mx, my, pa, v, x, y⟩ := s
  dsimp only at hi ha2 hd ⊢
  have G := Lib.hid (fun W hW => vector_Get A n c l a W hW hn hsz hi)
  have CT := Lib.hid (fun h3 W => vector_Turn fr (treeR vecC vecN l a).1 W hp (hd h3).1 (hd h3).2)
  obtain ⟨⟨rk, rn, re⟩, hr⟩ : ∃ r, treeR vecC vecN l a = r := ⟨_, rfl⟩
  rw [hr] at G CT ha2 ⊢
  dsimp only at G CT ha2 ⊢
  obtain ⟨⟨tv, te⟩, ht⟩ : ∃ r, turnP fr rk = r := ⟨_, rfl⟩
  rw [ht] at CT ⊢
  dsimp only at CT ⊢
  unfold rdC at *
  dsimp only at *
  have hg0 : g ≠ b0 := blk_ne hb h0 (by simp)
  have hg1 : g ≠ b1 := blk_ne hb h1 (by simp)
  have hg2 : g ≠ b2 := blk_ne hb h2 (by simp)
  have hw : IntKind.i64.wrap (a + rn) = a2 := ha2
  have hbd : Blk w.drew g 61 _ := hb.drewN 1
  have hd0 : Blk w.drew b0 57 _ := h0.drewN 1
  have hd1 : Blk w.drew b1 3 _ := h1.drewN 1
  have hd2 : Blk w.drew b2 102 _ := h2.drewN 1
  have y0 := hbd.cell 0; have y1 := hbd.cell 1; have y2 := hd0.cell 0
  have HBd := Lib.hid hbd; have HD0 := Lib.hid hd0; have HD1 := Lib.hid hd1; have HD2 := Lib.hid hd2
  have HAd := Lib.hid (show Sl w.drew A (l.map byteV) from hA)
  have HG0 := Lib.hid hg0; have HG1 := Lib.hid hg1; have HG2 := Lib.hid hg2
  clear hb hA hr hi ha2 hbd hn hsz hd0 hd1 hd2 h0 h1 h2 hd hp ht hg0 hg1 hg2
  go_enter Tryz.func111, Tryz.ntmps111
  go_wp2_with fail
  refine wp_region_treeN (fun w' => w'.cell? ⟨g, 0, none⟩ = some (.slice A n c) ∧ w'.cell? ⟨g, 1, none⟩ = some (.int .i64 a) ∧ w'.cell? ⟨b0, 0, none⟩ = some (.pointer (some ⟨g, 0, none⟩))) 15 (.take 0 (.take 1 (.take 2 (.take 3 (.take 4 (.take 5 (.take 6 (.take 7 (.step 8 (.take 9 (.take 10 (.take 11 (.take 12 (.step 13 (.step 14 .done))))))))))))))) (by kernel_rfl) (by kernel_rfl) (by simp only [Pln.out, Array.getD_eq_getD_getElem?, List.getElem?_toArray, List.getElem?_cons_zero, List.getElem?_cons_succ, Option.getD_some]; rfl) (by simp only [List.map_cons, List.map_nil]; rfl) (⟨y0, y1, y2⟩) (fun PE hPE => ?_)
  refine tree_take (v := ?_) rfl (by rfl) ?_ ?_
  rotate_left
  · intro _ hSw; (try dsimp only at hSw); obtain ⟨s0, s1, s2⟩ := hSw; go_simp; (try with_reducible rfl)
  simp only [List.setIfInBounds_toArray, List.set_cons_zero, List.set_cons_succ]
  refine tree_take (v := ?_) rfl (by rfl) ?_ ?_
  rotate_left
  · intro _ hSw; (try dsimp only at hSw); obtain ⟨s0, s1, s2⟩ := hSw; go_simp; (try with_reducible rfl)
  simp only [List.setIfInBounds_toArray, List.set_cons_zero, List.set_cons_succ]
  refine tree_take (v := ?_) rfl (by rfl) ?_ ?_
  rotate_left
  · intro _ hSw; (try dsimp only at hSw); obtain ⟨s0, s1, s2⟩ := hSw; go_simp; (try with_reducible rfl)
  simp only [List.setIfInBounds_toArray, List.set_cons_zero, List.set_cons_succ]
  refine tree_take (v := ?_) rfl (by rfl) ?_ ?_
  rotate_left
  · intro _ hSw; (try dsimp only at hSw); obtain ⟨s0, s1, s2⟩ := hSw; go_simp; (try with_reducible rfl)
  simp only [List.setIfInBounds_toArray, List.set_cons_zero, List.set_cons_succ]
  refine tree_take (v := ?_) rfl (by rfl) ?_ ?_
  rotate_left
  · intro _ hSw; (try dsimp only at hSw); obtain ⟨s0, s1, s2⟩ := hSw; go_simp; (try with_reducible rfl)
  simp only [List.setIfInBounds_toArray, List.set_cons_zero, List.set_cons_succ]
  refine tree_take (v := ?_) rfl (by rfl) ?_ ?_
  rotate_left
  · intro _ hSw; (try dsimp only at hSw); obtain ⟨s0, s1, s2⟩ := hSw; go_simp; (try with_reducible rfl)
  simp only [List.setIfInBounds_toArray, List.set_cons_zero, List.set_cons_succ]
  refine tree_take (v := ?_) rfl (by rfl) ?_ ?_
  rotate_left
  · intro _ hSw; (try dsimp only at hSw); obtain ⟨s0, s1, s2⟩ := hSw; go_simp; (try with_reducible rfl)
  simp only [List.setIfInBounds_toArray, List.set_cons_zero, List.set_cons_succ]
  refine tree_take (v := ?_) rfl (by rfl) ?_ ?_
  rotate_left
  · intro _ hSw; (try dsimp only at hSw); obtain ⟨s0, s1, s2⟩ := hSw; go_simp; (try with_reducible rfl)
  simp only [List.setIfInBounds_toArray, List.set_cons_zero, List.set_cons_succ]
  refine tree_call (f := 112) rfl (by rfl) (by first | (go_simp; done) | (go_simp; rfl)) (G.out _ HAd.out) ?_
  rintro e w2 ⟨rfl, hb2⟩
  have hL2 := HBd.out.below hb2 HBd.out.lt
  have hM0 := HD0.out.below hb2 HD0.out.lt
  have hM1 := HD1.out.below hb2 HD1.out.lt
  have hM2 := HD2.out.below hb2 HD2.out.lt
  have HT2 := Lib.hid (turn_then (turn_drew (Turn.refl (fun k => k = g) w)) hb2)
  refine ⟨_, rfl, _, fun _ h => h, ⟨hL2.cell 0, hL2.cell 1, hM0.cell 0⟩, ?_⟩
  simp only [List.setIfInBounds_toArray, List.set_cons_zero, List.set_cons_succ]
  refine tree_take (v := ?_) rfl (by rfl) ?_ ?_
  rotate_left
  · intro _ hSw; (try dsimp only at hSw); go_simp; (try with_reducible rfl)
  simp only [List.setIfInBounds_toArray, List.set_cons_zero, List.set_cons_succ]
  refine tree_take (v := ?_) rfl (by rfl) ?_ ?_
  rotate_left
  · intro _ hSw; (try dsimp only at hSw); go_simp; (try with_reducible rfl)
  simp only [List.setIfInBounds_toArray, List.set_cons_zero, List.set_cons_succ]
  refine tree_take (v := ?_) rfl (by rfl) ?_ ?_
  rotate_left
  · intro _ hSw; (try dsimp only at hSw); go_simp; (try with_reducible rfl)
  simp only [List.setIfInBounds_toArray, List.set_cons_zero, List.set_cons_succ]
  refine tree_take (v := ?_) rfl (by rfl) ?_ ?_
  rotate_left
  · intro _ hSw; (try dsimp only at hSw); go_simp; (try with_reducible rfl)
  simp only [List.setIfInBounds_toArray, List.set_cons_zero, List.set_cons_succ]
  refine tree_value (v := ?_) (w' := ?_) rfl (by rfl) ?_ ?_ ?_
  rotate_left 2
  · go_simp; (try (constructor <;> with_reducible rfl))
  · exact ⟨hL2.cell 0, hL2.cell 1, hM0.cell 0⟩
  simp only [List.setIfInBounds_toArray, List.set_cons_zero, List.set_cons_succ]
  refine tree_value (v := ?_) (w' := ?_) rfl (by rfl) ?_ ?_ ?_
  rotate_left 2
  · go_simp; (try (constructor <;> with_reducible rfl))
  · exact ⟨hL2.cell 0, hL2.cell 1, hM0.cell 0⟩
  simp only [List.setIfInBounds_toArray, List.set_cons_zero, List.set_cons_succ]
  refine hPE _ _ ?_
  clear hPE PE
  simp only [List.drop_succ_cons, List.drop_zero, List.drop_nil]
  have HL2 := Lib.hid hL2; have HM0 := Lib.hid hM0; have HM1 := Lib.hid hM1; have HM2 := Lib.hid hM2
  clear hL2 hM0 hM1 hM2 hb2 y0 y1 y2 HBd HD0 HD1 HD2 HAd G
  go_wp2_with fail
  refine ⟨rfl, ?_⟩
  cases he : (re != 0) with
  | true =>
    have hne : re ≠ 0 := by simpa using he
    have HNE := Lib.hid hne
    clear hne
    go_wp2_with fail
    go_ret
    exact .inl ⟨HNE.out, rfl, HL2.out, HT2.out⟩
  | false =>
    have he0 : re = 0 := by simpa using he
    subst he0
    have CT := Lib.hid (CT.out rfl)
    have z2 := HM0.out.cell 0
    have c1 : w2.cell? ⟨g, 1, none⟩ = some (.int .i64 a) := by rw [HL2.out.cell]; rfl
    have f1 := HL2.out.frozen 1
    have hL3 := HL2.out.set_ 1 (.int .i64 a2)
    simp only [List.setIfInBounds_toArray, List.set_cons_zero, List.set_cons_succ] at hL3
    have hN1 : Blk (World.drew (w2.setCell ⟨g, 1, none⟩ (.int .i64 a2))) b1 3 _ := (HM1.out.far (p := ⟨g, 1, none⟩) HG1.out.symm (.int .i64 a2)).drewN 1
    have hN2 : Blk (World.drew (w2.setCell ⟨g, 1, none⟩ (.int .i64 a2))) b2 102 _ := (HM2.out.far (p := ⟨g, 1, none⟩) HG2.out.symm (.int .i64 a2)).drewN 1
    have HL3 := Lib.hid hL3
    have HN1 := Lib.hid hN1; have HN2 := Lib.hid hN2
    have HT3 := Lib.hid (turn_set HT2.out 1 (.int .i64 a2))
    have u1 := hN1.cell 0; have u2 := hN2.cell 0
    clear hL3 hN1 hN2
    go_upto_region 5 with fail
    clear z2 c1 f1
    refine wp_region_treeN (fun w' => w'.cell? ⟨b1, 0, none⟩ = some (.int .i64 fr) ∧ w'.cell? ⟨b2, 0, none⟩ = some (.pointer (some ⟨g, 11, none⟩))) 9 (.take 0 (.take 1 (.take 2 (.step 3 (.take 4 (.take 5 (.take 6 (.take 7 (.step 8 .done))))))))) (by kernel_rfl) (by kernel_rfl) (by simp only [Pln.out, Array.getD_eq_getD_getElem?, List.getElem?_toArray, List.getElem?_cons_zero, List.getElem?_cons_succ, Option.getD_some]; rfl) (by simp only [List.map_cons, List.map_nil]; rfl) (⟨u1, u2⟩) (fun PE hPE => ?_)
    refine tree_take (v := ?_) rfl (by rfl) ?_ ?_
    rotate_left
    · intro _ hSw; (try dsimp only at hSw); obtain ⟨s1, s2⟩ := hSw; go_simp; (try with_reducible rfl)
    simp only [List.setIfInBounds_toArray, List.set_cons_zero, List.set_cons_succ]
    refine tree_take (v := ?_) rfl (by rfl) ?_ ?_
    rotate_left
    · intro _ hSw; (try dsimp only at hSw); obtain ⟨s1, s2⟩ := hSw; go_simp; (try with_reducible rfl)
    simp only [List.setIfInBounds_toArray, List.set_cons_zero, List.set_cons_succ]
    refine tree_take (v := ?_) rfl (by rfl) ?_ ?_
    rotate_left
    · intro _ hSw; (try dsimp only at hSw); obtain ⟨s1, s2⟩ := hSw; go_simp; (try with_reducible rfl)
    simp only [List.setIfInBounds_toArray, List.set_cons_zero, List.set_cons_succ]
    refine tree_call (f := 113) rfl (by rfl) (by first | (go_simp; done) | (go_simp; rfl)) (CT.out _) ?_
    rintro e w4 ⟨rfl, rfl⟩
    refine ⟨_, rfl, _, fun _ h => h, ⟨u1, u2⟩, ?_⟩
    simp only [List.setIfInBounds_toArray, List.set_cons_zero, List.set_cons_succ]
    refine tree_take (v := ?_) rfl (by rfl) ?_ ?_
    rotate_left
    · intro _ hSw; (try dsimp only at hSw); go_simp; (try with_reducible rfl)
    simp only [List.setIfInBounds_toArray, List.set_cons_zero, List.set_cons_succ]
    refine tree_take (v := ?_) rfl (by rfl) ?_ ?_
    rotate_left
    · intro _ hSw; (try dsimp only at hSw); go_simp; (try with_reducible rfl)
    simp only [List.setIfInBounds_toArray, List.set_cons_zero, List.set_cons_succ]
    refine tree_take (v := ?_) rfl (by rfl) ?_ ?_
    rotate_left
    · intro _ hSw; (try dsimp only at hSw); go_simp; (try with_reducible rfl)
    simp only [List.setIfInBounds_toArray, List.set_cons_zero, List.set_cons_succ]
    refine tree_take (v := ?_) rfl (by rfl) ?_ ?_
    rotate_left
    · intro _ hSw; (try dsimp only at hSw); go_simp; (try with_reducible rfl)
    simp only [List.setIfInBounds_toArray, List.set_cons_zero, List.set_cons_succ]
    have kk := HL3.out.cell 11; have fk := HL3.out.frozen 11
    have hL4 := HL3.out.set_ 11 (.int .i64 tv)
    simp only [List.setIfInBounds_toArray, List.set_cons_zero, List.set_cons_succ] at hL4
    have v1 := (HN1.out.far (p := ⟨g, 11, none⟩) HG1.out.symm (.int .i64 tv)).cell 0
    have v2 := (HN2.out.far (p := ⟨g, 11, none⟩) HG2.out.symm (.int .i64 tv)).cell 0
    refine tree_skip _ (w' := ?_) rfl (by rfl) ?_ ?_ ?_
    rotate_left 1
    · go_simp; (first | (with_reducible rfl) | (constructor <;> with_reducible rfl) | skip)
    · exact ⟨v1, v2⟩
    refine hPE _ _ ?_
    clear hPE PE
    simp only [List.drop_succ_cons, List.drop_zero, List.drop_nil]
    have hL5 : Blk (World.drew ((w2.setCell ⟨g, 1, none⟩ (.int .i64 a2)).setCell ⟨g, 11, none⟩ (.int .i64 tv))) g 61 _ := hL4.drewN 1
    have HT5 := Lib.hid (turn_drew (turn_set HT3.out 11 (.int .i64 tv)))
    clear v1 v2 kk fk u1 u2
    go_wp2_with fail
    refine ⟨rfl, ?_⟩
    go_wp2_with fail
    go_ret
    exact ⟨rfl, hL5, HT5.out⟩
end Go.Proofs.YtcojnigkgbmbmaaGreatDoor
namespace Go.Proofs.YtcojnigkgbmbmaaGreatDoor
open Go Go.RowKit
attribute [local go_sem] Oper.semAt_some
/-- behind a step that appends a block. -/
structure RdBPost (w0 : World) (g : Nat) (A : Option Addr) (n c : Nat) (s : RdS) (xs : List BkE) (r : BlkM × Int × Int) (a2 : Int) (w : World) (e : Ending) (w' : World) : Prop where
  ret : e = .returned (.int .i64 r.2.2)
  ex : ∃ v A2 c2, Blk w' g 61 (rdC A n c { s with a := a2, v := v }) ∧ w'.ownsRow w0.heap.size 81 2 v (xs.length + 1) (rowC bkC (xs ++ [(r.1, A2, c2)])) ∧ w'.ownsRow w0.heap.size 109 2 (.slice A2 r.1.l.length c2) r.1.l.length (rowC pairC r.1.l)
  below : Below w0.heap.size w0 w'
  keep : ∀ (g' : Nat) (t : TypeId) (cs : Array Value), Blk w g' t cs → t ≠ 81 → g' ≠ g → Blk w' g' t cs
  from_ : ∀ B' : Nat, KeepsFrom B' w w'
theorem ownsRow_le' {w : World} {base base' e size n : Nat} {v : Value} {xs : List Value} (h : w.ownsRow base e size v n xs) (hb : base' ≤ base) : w.ownsRow base' e size v n xs := by
  refine ⟨h.1, ?_⟩
  rcases h.2 with h1 | ⟨g, cap, cur, h1, h2, h3⟩
  · exact .inl h1
  · exact .inr ⟨g, cap, cur, h1, Nat.le_trans hb h2, h3⟩
theorem own_sl2 {w : World} {base e size n : Nat} {v : Value} {xs : List Value} (h : w.ownsRow base e size v n xs) : ∃ A c, v = .slice A n c ∧ Sl w A xs := by
  rcases h.2 with ⟨rfl, rfl⟩ | ⟨g, cap, cur, rfl, hbg, hh, h1, h2, h3, h4⟩
  · have : xs = [] := List.eq_nil_of_length_eq_zero (by simpa using h.1)
    subst this
    exact ⟨none, 0, rfl, Sl.nil _ _⟩
  · refine ⟨_, _, rfl, ?_⟩
    have := (Blk.sl (w := w) (g := g) (t := e) (cs := cur) hh 0).take (n * size)
    rw [List.drop_zero, h4] at this
    exact this
theorem etBlock : ElemT Tryz.prog 27 81 2 32 := .mk' (z := .agg #[.int .i64 0, .slice none 0 0]) (by kernel_rfl) (by kernel_rfl) rfl (by decide) (by decide)
section
variable {P : Program} {t e size bytes : Nat} {w W : World} {L : List CellF} {R : List RowF} {base n : Nat} {m : Nat} {v : Value} {xs news : List Value} {nb c : Nat}
theorem tree_appG (et : ElemT P t e size bytes) {dsts : List (Option Tmp)} {E : Act → World → Prop} {S : World → Prop} {r : PlnO} {tmps : Array Value} {defers : List Deferred} {o : Oper} {d : Nat} {s x : Operand} (hd : o.dst = some d) (hw : wanted2 o dsts tmps = true)
    (ho : o.op = .call { callee := .builtin .append, args := #[s, x], argTypes := #[t, t] }) (hs : Act.eval ⟨tmps, defers⟩ s = v) (hc : Cons w L (⟨base, e, size, v, n, xs⟩ :: R) W) (hx : Act.eval ⟨tmps, defers⟩ x = .slice (some ⟨nb, 0, none⟩) m c) (hnb : Blk W nb e news.toArray)
    (hl : news.length = m * size) (h1 : ∀ u ∈ news, u.oneCell' = true) (hb : (n + m) * bytes ≤ 140737488355328) (hbase : w.heap.size ≤ base ∧ base ≤ W.heap.size) (hL : ∀ p ∈ L, p.2.1 ≠ e ∨ p.1 < base) (hR : ∀ r ∈ R, r.e ≠ e)
    (h : ∀ v' W', Cons w L (⟨base, e, size, v', n + m, xs ++ news⟩ :: R) W' → (∀ g t cs, Blk W g t cs → t ≠ e → Blk W' g t cs) → W.grownBy W' v.ownBlock → S W' ∧ wpTreeO P dsts E r S ⟨tmps.setIfInBounds d v', defers⟩ W') :
    StepO P dsts o (fun a' w' => ∃ S' : World → Prop, (∀ w, S' w → S w) ∧ S' w' ∧ wpTreeO P dsts E r S' a' w') ⟨tmps, defers⟩ W := by
  obtain ⟨v', w', hrun, h2, h3, h4⟩ := run_app et o.type (c := c) hc.2.2.head hl (by have := Blk.sl hnb 0; simpa using this) h1 hb hbase.2
  obtain ⟨h5, h6⟩ := cons_app2 hc h3 h2 hbase.1 hL hR
  obtain ⟨h7, h8⟩ := h v' w' h5 h6 h3
  refine tree_value (v := v') (w' := w') hd hw ?_ h7 h8
  unfold execOp
  simp only [ho, resolve, invoke, builtin, Sem.run_bind, Sem.run_pure, Result.andThen_ok, List.map_toArray, List.map_cons, List.map_nil, hs, hx, hrun]
end
set_option maxRecDepth 100000 in
set_option maxHeartbeats 8000000 in
theorem rd_block (w0 : World) (g : Nat) (A : Option Addr) (n c : Nat) (l : List UInt8) (s : RdS) (xs : List BkE) (w : World) (hB0 : Below w0.heap.size w0 w) (hBg : w0.heap.size ≤ g) (hb : Blk w g 61 (rdC A n c s)) (hT : Ts w) (hA : Sl w A (l.map byteV)) (hn : l.length = n) (hsz : n ≤ 2 ^ 47)
    (hrow : w.ownsRow w0.heap.size 81 2 s.v xs.length (rowC bkC xs)) (hx : xs.length ≤ 100) (a2 : Int) (ha2 : IntKind.i64.wrap (s.a + (bgetP l s.a s.pt.1).2.1) = a2) :
    Calls Tryz.prog 76 #[.pointer (some ⟨g, 0, none⟩)] w (RdBPost w0 g A n c s xs (bgetP l s.a s.pt.1) a2 w) := by
  obtain ⟨a, ⟨t0, t1, t2, t3, t4⟩, ad, kd, qu, mx, my, pa, v, x, y⟩ := s
  dsimp only at ha2 hrow ⊢
  have G := Lib.hid (fun W hW hT => block_Get A n c l a t0 W hW hn hsz hT)
  obtain ⟨⟨⟨rd, rl⟩, rn, re⟩, hr⟩ : ∃ r, bgetP l a t0 = r := ⟨_, rfl⟩
  rw [hr] at G ha2 ⊢
  dsimp only at ha2
  have hw : IntKind.i64.wrap (a + rn) = a2 := ha2
  obtain ⟨RC, hrc⟩ : ∃ RC, rdC A n c ⟨a, (t0, t1, t2, t3, t4), ad, kd, qu, mx, my, pa, v, x, y⟩ = RC := ⟨_, rfl⟩
  have hc0 : RC[0]? = some (.slice A n c) := by rw [← hrc]; rfl
  have hc1 : RC[1]? = some (.int .i64 a) := by rw [← hrc]; rfl
  have hc2 : RC[2]? = some (.bool t0) := by rw [← hrc]; rfl
  rw [hrc] at hb
  have hbd : Blk w.drew g 61 RC := hb.drewN 1
  have y0 := hbd.cell 0; have y1 := hbd.cell 1; have y2 := hbd.cell 2
  rw [hc0] at y0
  rw [hc1] at y1
  rw [hc2] at y2
  have HBw := Lib.hid hb
  have HBd := Lib.hid hbd; have HRC := Lib.hid hrc; have HC0 := Lib.hid hc0; have HC1 := Lib.hid hc1; have HC2 := Lib.hid hc2
  have HAd := Lib.hid (show Sl w.drew A (l.map byteV) from hA); have HTd := Lib.hid (show Ts w.drew from hT)
  have HROW := Lib.hid hrow; have HB0 := Lib.hid hB0; have HBG := Lib.hid hBg
  have hgl := hb.lt
  clear hb hA hr ha2 hbd hn hsz hT hrc hc0 hc1 hc2 hrow hB0 hBg
  go_enter Tryz.func76, Tryz.ntmps76
  go_wp2_with fail
  refine wp_region_treeN (fun w' => w'.cell? ⟨g, 0, none⟩ = some (.slice A n c) ∧ w'.cell? ⟨g, 1, none⟩ = some (.int .i64 a) ∧ w'.cell? ⟨g, 2, none⟩ = some (.bool t0)) 21 (.take 0 (.take 1 (.take 2 (.take 3 (.take 4 (.take 5 (.take 6 (.take 7 (.take 8 (.take 9 (.take 10 (.take 11 (.take 12 (.fork 13 (.take 14 (.take 15 (.take 16 (.take 17 (.step 18 (.step 19 (.step 20 (.done)))))))) 18 (.step 13 (.take 14 (.take 15 (.take 16 (.take 17 (.step 19 (.step 20 (.done)))))))))))))))))))))) (by kernel_rfl) (by kernel_rfl) (by simp only [Pln.out, Array.getD_eq_getD_getElem?, List.getElem?_toArray, List.getElem?_cons_zero, List.getElem?_cons_succ, Option.getD_some]; rfl) (by simp only [List.map_cons, List.map_nil]; rfl) (⟨y0, y1, y2⟩) (fun PE hPE => ?_)
  refine tree_take (v := ?_) rfl (by rfl) ?_ ?_
  rotate_left
  · intro _ hSw; (try dsimp only at hSw); obtain ⟨s0, s1, s2⟩ := hSw; go_simp; (try with_reducible rfl)
  simp only [List.setIfInBounds_toArray, List.set_cons_zero, List.set_cons_succ]
  refine tree_take (v := ?_) rfl (by rfl) ?_ ?_
  rotate_left
  · intro _ hSw; (try dsimp only at hSw); obtain ⟨s0, s1, s2⟩ := hSw; go_simp; (try with_reducible rfl)
  simp only [List.setIfInBounds_toArray, List.set_cons_zero, List.set_cons_succ]
  refine tree_take (v := ?_) rfl (by rfl) ?_ ?_
  rotate_left
  · intro _ hSw; (try dsimp only at hSw); obtain ⟨s0, s1, s2⟩ := hSw; go_simp; (try with_reducible rfl)
  simp only [List.setIfInBounds_toArray, List.set_cons_zero, List.set_cons_succ]
  refine tree_take (v := ?_) rfl (by rfl) ?_ ?_
  rotate_left
  · intro _ hSw; (try dsimp only at hSw); obtain ⟨s0, s1, s2⟩ := hSw; go_simp; (try with_reducible rfl)
  simp only [List.setIfInBounds_toArray, List.set_cons_zero, List.set_cons_succ]
  refine tree_take (v := ?_) rfl (by rfl) ?_ ?_
  rotate_left
  · intro _ hSw; (try dsimp only at hSw); obtain ⟨s0, s1, s2⟩ := hSw; go_simp; (try with_reducible rfl)
  simp only [List.setIfInBounds_toArray, List.set_cons_zero, List.set_cons_succ]
  refine tree_take (v := ?_) rfl (by rfl) ?_ ?_
  rotate_left
  · intro _ hSw; (try dsimp only at hSw); obtain ⟨s0, s1, s2⟩ := hSw; go_simp; (try with_reducible rfl)
  simp only [List.setIfInBounds_toArray, List.set_cons_zero, List.set_cons_succ]
  refine tree_take (v := ?_) rfl (by rfl) ?_ ?_
  rotate_left
  · intro _ hSw; (try dsimp only at hSw); obtain ⟨s0, s1, s2⟩ := hSw; go_simp; (try with_reducible rfl)
  simp only [List.setIfInBounds_toArray, List.set_cons_zero, List.set_cons_succ]
  refine tree_take (v := ?_) rfl (by rfl) ?_ ?_
  rotate_left
  · intro _ hSw; (try dsimp only at hSw); obtain ⟨s0, s1, s2⟩ := hSw; go_simp; (try with_reducible rfl)
  simp only [List.setIfInBounds_toArray, List.set_cons_zero, List.set_cons_succ]
  refine tree_take (v := ?_) rfl (by rfl) ?_ ?_
  rotate_left
  · intro _ hSw; (try dsimp only at hSw); obtain ⟨s0, s1, s2⟩ := hSw; go_simp; (try with_reducible rfl)
  simp only [List.setIfInBounds_toArray, List.set_cons_zero, List.set_cons_succ]
  refine tree_take (v := ?_) rfl (by rfl) ?_ ?_
  rotate_left
  · intro _ hSw; (try dsimp only at hSw); obtain ⟨s0, s1, s2⟩ := hSw; go_simp; (try with_reducible rfl)
  simp only [List.setIfInBounds_toArray, List.set_cons_zero, List.set_cons_succ]
  refine tree_take (v := ?_) rfl (by rfl) ?_ ?_
  rotate_left
  · intro _ hSw; (try dsimp only at hSw); obtain ⟨s0, s1, s2⟩ := hSw; go_simp; (try with_reducible rfl)
  simp only [List.setIfInBounds_toArray, List.set_cons_zero, List.set_cons_succ]
  refine tree_take (v := ?_) rfl (by rfl) ?_ ?_
  rotate_left
  · intro _ hSw; (try dsimp only at hSw); obtain ⟨s0, s1, s2⟩ := hSw; go_simp; (try with_reducible rfl)
  simp only [List.setIfInBounds_toArray, List.set_cons_zero, List.set_cons_succ]
  refine tree_take (v := ?_) rfl (by rfl) ?_ ?_
  rotate_left
  · intro _ hSw; (try dsimp only at hSw); obtain ⟨s0, s1, s2⟩ := hSw; go_simp; (try with_reducible rfl)
  simp only [List.setIfInBounds_toArray, List.set_cons_zero, List.set_cons_succ]
  refine ⟨?_, ?_⟩
  · refine tree_call (f := 115) rfl (by rfl) (by first | (go_simp; done) | (go_simp; rfl)) (G.out _ HAd.out HTd.out) ?_
    rintro e w2 ⟨v2, rfl, hb2, ho2⟩
    obtain ⟨A2, c2, hv2, _⟩ := own_sl2 ho2
    dsimp only at hv2 ho2
    subst hv2
    dsimp only
    have hL2 := HBd.out.below hb2 HBd.out.lt
    refine ⟨_, rfl, _, fun _ h => h, ⟨by rw [hL2.cell, HC0.out], by rw [hL2.cell, HC1.out], by rw [hL2.cell, HC2.out]⟩, ?_⟩
    simp only [List.setIfInBounds_toArray, List.set_cons_zero, List.set_cons_succ]
    refine tree_take (v := ?_) rfl (by rfl) ?_ ?_
    rotate_left
    · intro _ hSw; (try dsimp only at hSw); go_simp; (try with_reducible rfl)
    simp only [List.setIfInBounds_toArray, List.set_cons_zero, List.set_cons_succ]
    refine tree_take (v := ?_) rfl (by rfl) ?_ ?_
    rotate_left
    · intro _ hSw; (try dsimp only at hSw); go_simp; (try with_reducible rfl)
    simp only [List.setIfInBounds_toArray, List.set_cons_zero, List.set_cons_succ]
    refine tree_take (v := ?_) rfl (by rfl) ?_ ?_
    rotate_left
    · intro _ hSw; (try dsimp only at hSw); go_simp; (try with_reducible rfl)
    simp only [List.setIfInBounds_toArray, List.set_cons_zero, List.set_cons_succ]
    refine tree_take (v := ?_) rfl (by rfl) ?_ ?_
    rotate_left
    · intro _ hSw; (try dsimp only at hSw); go_simp; (try with_reducible rfl)
    simp only [List.setIfInBounds_toArray, List.set_cons_zero, List.set_cons_succ]
    obtain ⟨b3, hb3⟩ : ∃ b3, w2.heap.size = b3 := ⟨_, rfl⟩
    refine tree_value (v := ?_) (w' := ?_) rfl (by rfl) ?_ ?_ ?_
    rotate_left 2
    · go_simp; (try (constructor <;> with_reducible rfl))
    · exact ⟨by rw [(hL2.alloc _).cell, HC0.out], by rw [(hL2.alloc _).cell, HC1.out], by rw [(hL2.alloc _).cell, HC2.out]⟩
    simp only [List.setIfInBounds_toArray, List.set_cons_zero, List.set_cons_succ]
    refine tree_skip _ (w' := ?_) rfl (by rfl) ?_ ?_ ?_
    rotate_left 1
    · go_simp; (first | (with_reducible rfl) | (constructor <;> with_reducible rfl) | skip)
    · exact ⟨by rw [(hL2.alloc _).cell, HC0.out], by rw [(hL2.alloc _).cell, HC1.out], by rw [(hL2.alloc _).cell, HC2.out]⟩
    refine tree_value (v := ?_) (w' := ?_) rfl (by rfl) ?_ ?_ ?_
    rotate_left 2
    · go_simp; (try (constructor <;> with_reducible rfl))
    · exact ⟨by rw [(hL2.alloc _).cell, HC0.out], by rw [(hL2.alloc _).cell, HC1.out], by rw [(hL2.alloc _).cell, HC2.out]⟩
    simp only [List.setIfInBounds_toArray, List.set_cons_zero, List.set_cons_succ]
    refine hPE _ _ ?_
    clear hPE PE
    simp only [List.drop_succ_cons, List.drop_zero, List.drop_nil]
    go_wp2_with fail
    refine ⟨rfl, ?_⟩
    have hbb : Below w0.heap.size w0 w2 := (HB0.out.drew).trans (hb2.mono (by show _ ≤ w.heap.size; exact HB0.out.size))
    have hc5 : Cons w0 [(b3, 81, #[.int .i64 rd, .slice A2 rl.length c2]), (g, 61, RC)] [⟨w0.heap.size, 81, 2, v, xs.length, rowC bkC xs⟩, ⟨w0.heap.size, 109, 2, .slice A2 rl.length c2, rl.length, rowC pairC rl⟩] (w2.alloc (.cells #[.int .i64 rd, .slice A2 rl.length c2] 81)) :=
      cons_cell (cons_alloc ⟨hbb, CellsAt.cons hL2 (cellsAt_nil _), RowsAt.cons (own_below (show (World.drew w).ownsRow _ _ _ _ _ _ from HROW.out) hb2 (Nat.le_refl _)) (RowsAt.cons (ownsRow_le' ho2 HB0.out.size) (rowsAt_nil _))⟩ _) (blkAt (Blk.new _ _ _) hb3)
    have hbw : Below w.heap.size w (w2.alloc (.cells #[.int .i64 rd, .slice A2 rl.length c2] 81)) := (((Below.refl _ w).drew).trans (hb2.mono (by simp))).alloc (by have := hb2.size; simpa using this) _
    have HB3G := Lib.hid (show ¬ b3 = g by have := hb2.size; simp at this; omega)
    have HB3W := Lib.hid (show w.heap.size ≤ b3 by have := hb2.size; simp at this; omega)
    clear y0 y1 y2 hL2 hbb hb2 ho2 hb3 G
    generalize w2.alloc (.cells #[.int .i64 rd, .slice A2 rl.length c2] 81) = W5 at hc5 hbw ⊢
    have q1 : W5.cell? ⟨g, 1, none⟩ = some (.int .i64 a) := by rw [hc5.2.1.tail.head.cell, HC1.out]
    have fq := hc5.2.1.tail.head.frozen 1
    have HC5 := Lib.hid hc5; have HBW := Lib.hid hbw
    have hc6 := cons_store hc5 HBG.out 1 (.int .i64 a2) (g, 61, RC) (by simp) rfl (by simp)
    have hne3 : ¬ b3 = g := HB3G.out
    simp [setL, hne3] at hc6
    have HC6 := Lib.hid hc6
    clear hc5 hbw hc6 hne3
    go_upto_region 3 with fail
    clear q1 fq
    have hc7 := cons_drew HC6.out
    have hv13 : (RC.setIfInBounds 1 (.int .i64 a2))[13]? = some v := by rw [← HRC.out]; rfl
    obtain ⟨A9, c9, hv9⟩ := own_slN HROW.out
    subst hv9
    have z0 := hc7.2.1.head.cell 0; have z1 := hc7.2.1.head.cell 1; have z2 := hc7.2.1.tail.head.cell 13
    rw [hv13] at z2
    have hz3 : Blk (World.drew ((W5.setCell ⟨g, 1, none⟩ (.int .i64 a2)).alloc (.cells #[.int .i64 rd, .slice A2 rl.length c2] 81))) b3 81 #[.int .i64 rd, .slice A2 rl.length c2] := (HC6.out.2.1.head.alloc _).drewN 1
    have hz4 : Blk (World.drew ((W5.setCell ⟨g, 1, none⟩ (.int .i64 a2)).alloc (.cells #[.int .i64 rd, .slice A2 rl.length c2] 81))) g 61 (RC.setIfInBounds 1 (.int .i64 a2)) := (HC6.out.2.1.tail.head.alloc _).drewN 1
    have z2' := hz4.cell 13
    rw [hv13] at z2'
    have HZ3 := Lib.hid hz3; have HZ4 := Lib.hid hz4
    have HC7 := Lib.hid hc7
    clear hc7 hv13
    refine wp_region_treeN (fun w' => w'.cell? ⟨b3, 0, none⟩ = some (.int .i64 rd) ∧ w'.cell? ⟨b3, 1, none⟩ = some (.slice A2 rl.length c2) ∧ w'.cell? ⟨g, 13, none⟩ = some (.slice A9 xs.length c9)) 9 (.take 0 (.take 1 (.take 2 (.take 3 (.take 4 (.take 5 (.take 6 (.step 7 (.step 8 .done))))))))) (by kernel_rfl) (by kernel_rfl) (by simp only [Pln.out, Array.getD_eq_getD_getElem?, List.getElem?_toArray, List.getElem?_cons_zero, List.getElem?_cons_succ, Option.getD_some]; rfl) (by simp only [List.map_cons, List.map_nil]; rfl) (⟨z0, z1, z2⟩) (fun PE hPE => ?_)
    refine tree_take (v := ?_) rfl (by rfl) ?_ ?_
    rotate_left
    · intro _ hSw; (try dsimp only at hSw); obtain ⟨s0, s1, s2⟩ := hSw; go_simp; (try with_reducible rfl)
    simp only [List.setIfInBounds_toArray, List.set_cons_zero, List.set_cons_succ]
    refine tree_take (v := ?_) rfl (by rfl) ?_ ?_
    rotate_left
    · intro _ hSw; (try dsimp only at hSw); obtain ⟨s0, s1, s2⟩ := hSw; go_simp; (try with_reducible rfl)
    simp only [List.setIfInBounds_toArray, List.set_cons_zero, List.set_cons_succ]
    refine tree_take (v := ?_) rfl (by rfl) ?_ ?_
    rotate_left
    · intro _ hSw; (try dsimp only at hSw); obtain ⟨s0, s1, s2⟩ := hSw; go_simp; (try with_reducible rfl)
    simp only [List.setIfInBounds_toArray, List.set_cons_zero, List.set_cons_succ]
    refine tree_take (v := ?_) rfl (by rfl) ?_ ?_
    rotate_left
    · intro _ hSw; (try dsimp only at hSw); obtain ⟨s0, s1, s2⟩ := hSw; go_simp; (try with_reducible rfl)
    simp only [List.setIfInBounds_toArray, List.set_cons_zero, List.set_cons_succ]
    refine tree_take (v := ?_) rfl (by rfl) ?_ ?_
    rotate_left
    · intro _ hSw; (try dsimp only at hSw); obtain ⟨s0, s1, s2⟩ := hSw; go_simp; (try with_reducible rfl)
    simp only [List.setIfInBounds_toArray, List.set_cons_zero, List.set_cons_succ]
    refine tree_take (v := ?_) rfl (by rfl) ?_ ?_
    rotate_left
    · intro _ hSw; (try dsimp only at hSw); obtain ⟨s0, s1, s2⟩ := hSw; go_simp; (try with_reducible rfl)
    simp only [List.setIfInBounds_toArray, List.set_cons_zero, List.set_cons_succ]
    refine tree_take (v := ?_) rfl (by rfl) ?_ ?_
    rotate_left
    · intro _ hSw; (try dsimp only at hSw); obtain ⟨s0, s1, s2⟩ := hSw; go_simp; (try with_reducible rfl)
    simp only [List.setIfInBounds_toArray, List.set_cons_zero, List.set_cons_succ]
    refine tree_value (v := ?_) (w' := ?_) rfl (by rfl) ?_ ?_ ?_
    rotate_left 2
    · go_simp; (try (constructor <;> with_reducible rfl))
    · exact ⟨hz3.cell 0, hz3.cell 1, z2'⟩
    simp only [List.setIfInBounds_toArray, List.set_cons_zero, List.set_cons_succ]
    have hca : Cons w0 [(g, 61, RC.setIfInBounds 1 (.int .i64 a2))] [⟨w0.heap.size, 81, 2, .slice A9 xs.length c9, xs.length, rowC bkC xs⟩, ⟨w0.heap.size, 109, 2, .slice A2 rl.length c2, rl.length, rowC pairC rl⟩] (World.drew ((W5.setCell ⟨g, 1, none⟩ (.int .i64 a2)).alloc (.cells #[.int .i64 rd, .slice A2 rl.length c2] 81))) := cons_drew (cons_alloc (cons_drop HC6.out) _)
    have hnb : Blk (World.drew ((W5.setCell ⟨g, 1, none⟩ (.int .i64 a2)).alloc (.cells #[.int .i64 rd, .slice A2 rl.length c2] 81))) W5.heap.size 81 [Value.int .i64 rd, .slice A2 rl.length c2].toArray := (blkAt (Blk.new _ _ _) (by simp)).drewN 1
    refine tree_appG etBlock rfl rfl rfl rfl hca rfl hnb (m := 1) (news := [.int .i64 rd, .slice A2 rl.length c2]) rfl (by intro u hu; simp at hu; rcases hu with rfl | rfl <;> rfl) (by omega) ⟨Nat.le_refl _, hca.1.size⟩ (by simp) (by simp) (fun v' W7 hc8 hk8 hg8 => ⟨?_, ?_⟩)
    · have hlt : b3 < (World.drew ((W5.setCell ⟨g, 1, none⟩ (.int .i64 a2)).alloc (.cells #[.int .i64 rd, .slice A2 rl.length c2] 81))).heap.size := HZ3.out.lt
      have hb7 : Blk W7 b3 81 #[.int .i64 rd, .slice A2 rl.length c2] := (hg8.block b3 hlt (fun e => by have h1 := (HROW.out.lt b3 e.symm).2; have h2 := HB3W.out; omega)).trans HZ3.out
      refine ⟨hb7.cell 0, hb7.cell 1, ?_⟩
      rw [hc8.2.1.head.cell 13]
      exact (HZ4.out.cell 13).symm.trans z2'
    simp only [List.setIfInBounds_toArray, List.set_cons_zero, List.set_cons_succ]
    obtain ⟨A10, c10, hv10⟩ := own_slN hc8.2.2.head
    dsimp only at hv10
    subst hv10
    have k13 := hc8.2.1.head.cell 13; have f13 := hc8.2.1.head.frozen 13
    have e13 : (RC.setIfInBounds 1 (.int .i64 a2))[13]? = some (.slice A9 xs.length c9) := by rw [← HRC.out]; rfl
    dsimp only at k13
    rw [e13] at k13
    have HC8 := Lib.hid hc8; have HK8 := Lib.hid hk8; have HG8 := Lib.hid hg8
    clear hc8 hk8 hg8 z0 z1 z2 z2' hz3 hz4 hca hnb e13
    refine hPE _ _ ?_
    clear hPE PE
    simp only [List.drop_succ_cons, List.drop_zero, List.drop_nil]
    go_wp2_with fail
    refine ⟨rfl, ?_⟩
    go_wp2_with fail
    go_ret
    have hc9 := cons_store HC8.out HBG.out 13 (.slice A10 (xs.length + 1) c10) (g, 61, RC.setIfInBounds 1 (.int .i64 a2)) (by simp) rfl (by simp)
    simp [setL] at hc9
    have hca := cons_drew (cons_alloc (cons_drop HC6.out) (.cells #[.int .i64 rd, .slice A2 rl.length c2] 81))
    refine ⟨rfl, ⟨.slice A10 (xs.length + 1) c10, A2, c2, ?_, ?_, ?_⟩, hc9.1, fun g' t cs h ht hg' => ?_, fun B' => ?_⟩
    · have h := hc9.2.1.head
      rw [← HRC.out] at h
      exact h
    · have h := hc9.2.2.head
      rw [rowC_app, rowC_one]
      exact h
    · exact hc9.2.2.tail.head
    · exact (HK8.out g' t cs (((h.below HBW.out h.lt).far (p := ⟨g, 1, none⟩) hg' (.int .i64 a2)).alloc (.cells #[.int .i64 rd, .slice A2 rl.length c2] 81)) ht).far (p := ⟨g, 13, none⟩) hg' _
    · exact kf_set (kf_then' (kf_drew (kf_alloc (kf_set (kf_below HBW.out) _ _) _)) (kf_grown (KeepsFrom.refl _ _) HG8.out (own_cells hca.2.2.head))) _ _
  · obtain ⟨b3, hb3⟩ : ∃ b3, w.heap.size = b3 := ⟨_, rfl⟩
    have hL1 : Blk (World.drew (w.alloc (.cells #[.int .i64 0, .slice none 0 0] 81))) g 61 RC := (HBw.out.alloc _).drewN 1
    refine tree_value (v := ?_) (w' := ?_) rfl (by rfl) ?_ ?_ ?_
    rotate_left 2
    · go_simp; (try (constructor <;> with_reducible rfl))
    · exact ⟨by rw [hL1.cell, HC0.out], by rw [hL1.cell, HC1.out], by rw [hL1.cell, HC2.out]⟩
    simp only [List.setIfInBounds_toArray, List.set_cons_zero, List.set_cons_succ]
    have hBa : Below w.heap.size w (World.drew (w.alloc (.cells #[.int .i64 0, .slice none 0 0] 81))) := ((Below.refl _ _).alloc (Nat.le_refl _) _).drew
    have hsz1 : (World.drew (w.alloc (.cells #[.int .i64 0, .slice none 0 0] 81))).heap.size = w.heap.size + 1 := World.size_alloc _ _
    have hP0 : Blk (World.drew (w.alloc (.cells #[.int .i64 0, .slice none 0 0] 81))) b3 81 #[.int .i64 0, .slice none 0 0] := (blkAt (Blk.new _ _ _) hb3).drewN 1
    refine tree_call (f := 115) rfl (by rfl) (by first | (go_simp; done) | (go_simp; rfl)) (G.out _ ((show Sl w A _ from HAd.out).below hBa) ((show Ts w from HTd.out).below hBa)) ?_
    rintro e w2 ⟨v2, rfl, hb2, ho2⟩
    obtain ⟨A2, c2, hv2, _⟩ := own_sl2 ho2
    dsimp only at hv2 ho2
    subst hv2
    dsimp only
    have hL2 := hL1.below hb2 hL1.lt
    have hP2 := hP0.below hb2 hP0.lt
    refine ⟨_, rfl, _, fun _ h => h, ⟨by rw [hL2.cell, HC0.out], by rw [hL2.cell, HC1.out], by rw [hL2.cell, HC2.out]⟩, ?_⟩
    simp only [List.setIfInBounds_toArray, List.set_cons_zero, List.set_cons_succ]
    refine tree_take (v := ?_) rfl (by rfl) ?_ ?_
    rotate_left
    · intro _ hSw; (try dsimp only at hSw); go_simp; (try with_reducible rfl)
    simp only [List.setIfInBounds_toArray, List.set_cons_zero, List.set_cons_succ]
    refine tree_take (v := ?_) rfl (by rfl) ?_ ?_
    rotate_left
    · intro _ hSw; (try dsimp only at hSw); go_simp; (try with_reducible rfl)
    simp only [List.setIfInBounds_toArray, List.set_cons_zero, List.set_cons_succ]
    refine tree_take (v := ?_) rfl (by rfl) ?_ ?_
    rotate_left
    · intro _ hSw; (try dsimp only at hSw); go_simp; (try with_reducible rfl)
    simp only [List.setIfInBounds_toArray, List.set_cons_zero, List.set_cons_succ]
    refine tree_take (v := ?_) rfl (by rfl) ?_ ?_
    rotate_left
    · intro _ hSw; (try dsimp only at hSw); go_simp; (try with_reducible rfl)
    simp only [List.setIfInBounds_toArray, List.set_cons_zero, List.set_cons_succ]
    have hgb3 : g ≠ b3 := by omega
    have hL3 := (hL2.far (p := ⟨b3, 0, none⟩) hgb3 (.int .i64 rd)).far (p := ⟨b3, 1, none⟩) hgb3 (.slice A2 rl.length c2)
    have k0 := hP2.cell 0; have k1 := hP2.cell 1; have f0 := hP2.frozen 0; have f1 := hP2.frozen 1
    refine tree_skip _ (w' := ?_) rfl (by rfl) ?_ ?_ ?_
    rotate_left 1
    · go_simp; (first | (with_reducible rfl) | (constructor <;> with_reducible rfl) | skip)
    · exact ⟨by rw [hL3.cell, HC0.out], by rw [hL3.cell, HC1.out], by rw [hL3.cell, HC2.out]⟩
    refine tree_value (v := ?_) (w' := ?_) rfl (by rfl) ?_ ?_ ?_
    rotate_left 2
    · go_simp; (try (constructor <;> with_reducible rfl))
    · exact ⟨by rw [hL3.cell, HC0.out], by rw [hL3.cell, HC1.out], by rw [hL3.cell, HC2.out]⟩
    simp only [List.setIfInBounds_toArray, List.set_cons_zero, List.set_cons_succ]
    refine hPE _ _ ?_
    clear hPE PE
    simp only [List.drop_succ_cons, List.drop_zero, List.drop_nil]
    go_wp2_with fail
    refine ⟨rfl, ?_⟩
    have hbb : Below w0.heap.size w0 w2 := (HB0.out.trans (hBa.mono HB0.out.size)).trans (hb2.mono (by rw [hsz1]; have := HB0.out.size; omega))
    have hro : w2.ownsRow w0.heap.size 81 2 v xs.length (rowC bkC xs) := own_below (own_below HROW.out hBa (Nat.le_refl _)) hb2 (Nat.le_refl _)
    have hvne : v.ownBlock ≠ some b3 := fun h => by have h1 := (HROW.out.lt b3 h).2; omega
    have hpne : (Value.slice A2 rl.length c2).ownBlock ≠ some b3 := fun h => by have h1 := (ho2.lt b3 h).1; rw [hsz1] at h1; omega
    have hc5 : Cons w0 [(b3, 81, #[.int .i64 rd, .slice A2 rl.length c2]), (g, 61, RC)] [⟨w0.heap.size, 81, 2, v, xs.length, rowC bkC xs⟩, ⟨w0.heap.size, 109, 2, .slice A2 rl.length c2, rl.length, rowC pairC rl⟩] ((w2.setCell ⟨b3, 0, none⟩ (.int .i64 rd)).setCell ⟨b3, 1, none⟩ (.slice A2 rl.length c2)) :=
      ⟨(hbb.setCell (p := ⟨b3, 0, none⟩) (by show _ ≤ b3; have := HB0.out.size; omega) _).setCell (p := ⟨b3, 1, none⟩) (by show _ ≤ b3; have := HB0.out.size; omega) _, CellsAt.cons ((hP2.set_ 0 (.int .i64 rd)).set_ 1 (.slice A2 rl.length c2)) (CellsAt.cons hL3 (cellsAt_nil _)),
        RowsAt.cons (own_set (own_set hro ⟨b3, 0, none⟩ _ hvne) ⟨b3, 1, none⟩ _ hvne) (RowsAt.cons (own_set (own_set (ownsRow_le' ho2 (by rw [hsz1]; have := HB0.out.size; omega)) ⟨b3, 0, none⟩ _ hpne) ⟨b3, 1, none⟩ _ hpne) (rowsAt_nil _))⟩
    have hbw : Below w.heap.size w ((w2.setCell ⟨b3, 0, none⟩ (.int .i64 rd)).setCell ⟨b3, 1, none⟩ (.slice A2 rl.length c2)) := (((hBa.trans (hb2.mono (by rw [hsz1]; omega))).setCell (p := ⟨b3, 0, none⟩) (by show _ ≤ b3; omega) _).setCell (p := ⟨b3, 1, none⟩) (by show _ ≤ b3; omega) _)
    have HB3G := Lib.hid (show ¬ b3 = g by omega)
    have HB3W := Lib.hid (show w.heap.size ≤ b3 by omega)
    clear y0 y1 y2 hL1 hL2 hL3 hbb hb2 ho2 hb3 G hBa hP0 hP2 hgb3 k0 k1 f0 f1 hro hvne hpne hsz1
    generalize (w2.setCell ⟨b3, 0, none⟩ (.int .i64 rd)).setCell ⟨b3, 1, none⟩ (.slice A2 rl.length c2) = W5 at hc5 hbw ⊢
    have q1 : W5.cell? ⟨g, 1, none⟩ = some (.int .i64 a) := by rw [hc5.2.1.tail.head.cell, HC1.out]
    have fq := hc5.2.1.tail.head.frozen 1
    have HC5 := Lib.hid hc5; have HBW := Lib.hid hbw
    have hc6 := cons_store hc5 HBG.out 1 (.int .i64 a2) (g, 61, RC) (by simp) rfl (by simp)
    have hne3 : ¬ b3 = g := HB3G.out
    simp [setL, hne3] at hc6
    have HC6 := Lib.hid hc6
    clear hc5 hbw hc6 hne3
    go_upto_region 3 with fail
    clear q1 fq
    have hc7 := cons_drew HC6.out
    have hv13 : (RC.setIfInBounds 1 (.int .i64 a2))[13]? = some v := by rw [← HRC.out]; rfl
    obtain ⟨A9, c9, hv9⟩ := own_slN HROW.out
    subst hv9
    have z0 := hc7.2.1.head.cell 0; have z1 := hc7.2.1.head.cell 1; have z2 := hc7.2.1.tail.head.cell 13
    rw [hv13] at z2
    have hz3 : Blk (World.drew ((W5.setCell ⟨g, 1, none⟩ (.int .i64 a2)).alloc (.cells #[.int .i64 rd, .slice A2 rl.length c2] 81))) b3 81 #[.int .i64 rd, .slice A2 rl.length c2] := (HC6.out.2.1.head.alloc _).drewN 1
    have hz4 : Blk (World.drew ((W5.setCell ⟨g, 1, none⟩ (.int .i64 a2)).alloc (.cells #[.int .i64 rd, .slice A2 rl.length c2] 81))) g 61 (RC.setIfInBounds 1 (.int .i64 a2)) := (HC6.out.2.1.tail.head.alloc _).drewN 1
    have z2' := hz4.cell 13
    rw [hv13] at z2'
    have HZ3 := Lib.hid hz3; have HZ4 := Lib.hid hz4
    have HC7 := Lib.hid hc7
    clear hc7 hv13
    refine wp_region_treeN (fun w' => w'.cell? ⟨b3, 0, none⟩ = some (.int .i64 rd) ∧ w'.cell? ⟨b3, 1, none⟩ = some (.slice A2 rl.length c2) ∧ w'.cell? ⟨g, 13, none⟩ = some (.slice A9 xs.length c9)) 9 (.take 0 (.take 1 (.take 2 (.take 3 (.take 4 (.take 5 (.take 6 (.step 7 (.step 8 .done))))))))) (by kernel_rfl) (by kernel_rfl) (by simp only [Pln.out, Array.getD_eq_getD_getElem?, List.getElem?_toArray, List.getElem?_cons_zero, List.getElem?_cons_succ, Option.getD_some]; rfl) (by simp only [List.map_cons, List.map_nil]; rfl) (⟨z0, z1, z2⟩) (fun PE hPE => ?_)
    refine tree_take (v := ?_) rfl (by rfl) ?_ ?_
    rotate_left
    · intro _ hSw; (try dsimp only at hSw); obtain ⟨s0, s1, s2⟩ := hSw; go_simp; (try with_reducible rfl)
    simp only [List.setIfInBounds_toArray, List.set_cons_zero, List.set_cons_succ]
    refine tree_take (v := ?_) rfl (by rfl) ?_ ?_
    rotate_left
    · intro _ hSw; (try dsimp only at hSw); obtain ⟨s0, s1, s2⟩ := hSw; go_simp; (try with_reducible rfl)
    simp only [List.setIfInBounds_toArray, List.set_cons_zero, List.set_cons_succ]
    refine tree_take (v := ?_) rfl (by rfl) ?_ ?_
    rotate_left
    · intro _ hSw; (try dsimp only at hSw); obtain ⟨s0, s1, s2⟩ := hSw; go_simp; (try with_reducible rfl)
    simp only [List.setIfInBounds_toArray, List.set_cons_zero, List.set_cons_succ]
    refine tree_take (v := ?_) rfl (by rfl) ?_ ?_
    rotate_left
    · intro _ hSw; (try dsimp only at hSw); obtain ⟨s0, s1, s2⟩ := hSw; go_simp; (try with_reducible rfl)
    simp only [List.setIfInBounds_toArray, List.set_cons_zero, List.set_cons_succ]
    refine tree_take (v := ?_) rfl (by rfl) ?_ ?_
    rotate_left
    · intro _ hSw; (try dsimp only at hSw); obtain ⟨s0, s1, s2⟩ := hSw; go_simp; (try with_reducible rfl)
    simp only [List.setIfInBounds_toArray, List.set_cons_zero, List.set_cons_succ]
    refine tree_take (v := ?_) rfl (by rfl) ?_ ?_
    rotate_left
    · intro _ hSw; (try dsimp only at hSw); obtain ⟨s0, s1, s2⟩ := hSw; go_simp; (try with_reducible rfl)
    simp only [List.setIfInBounds_toArray, List.set_cons_zero, List.set_cons_succ]
    refine tree_take (v := ?_) rfl (by rfl) ?_ ?_
    rotate_left
    · intro _ hSw; (try dsimp only at hSw); obtain ⟨s0, s1, s2⟩ := hSw; go_simp; (try with_reducible rfl)
    simp only [List.setIfInBounds_toArray, List.set_cons_zero, List.set_cons_succ]
    refine tree_value (v := ?_) (w' := ?_) rfl (by rfl) ?_ ?_ ?_
    rotate_left 2
    · go_simp; (try (constructor <;> with_reducible rfl))
    · exact ⟨hz3.cell 0, hz3.cell 1, z2'⟩
    simp only [List.setIfInBounds_toArray, List.set_cons_zero, List.set_cons_succ]
    have hca : Cons w0 [(g, 61, RC.setIfInBounds 1 (.int .i64 a2))] [⟨w0.heap.size, 81, 2, .slice A9 xs.length c9, xs.length, rowC bkC xs⟩, ⟨w0.heap.size, 109, 2, .slice A2 rl.length c2, rl.length, rowC pairC rl⟩] (World.drew ((W5.setCell ⟨g, 1, none⟩ (.int .i64 a2)).alloc (.cells #[.int .i64 rd, .slice A2 rl.length c2] 81))) := cons_drew (cons_alloc (cons_drop HC6.out) _)
    have hnb : Blk (World.drew ((W5.setCell ⟨g, 1, none⟩ (.int .i64 a2)).alloc (.cells #[.int .i64 rd, .slice A2 rl.length c2] 81))) W5.heap.size 81 [Value.int .i64 rd, .slice A2 rl.length c2].toArray := (blkAt (Blk.new _ _ _) (by simp)).drewN 1
    refine tree_appG etBlock rfl rfl rfl rfl hca rfl hnb (m := 1) (news := [.int .i64 rd, .slice A2 rl.length c2]) rfl (by intro u hu; simp at hu; rcases hu with rfl | rfl <;> rfl) (by omega) ⟨Nat.le_refl _, hca.1.size⟩ (by simp) (by simp) (fun v' W7 hc8 hk8 hg8 => ⟨?_, ?_⟩)
    · have hlt : b3 < (World.drew ((W5.setCell ⟨g, 1, none⟩ (.int .i64 a2)).alloc (.cells #[.int .i64 rd, .slice A2 rl.length c2] 81))).heap.size := HZ3.out.lt
      have hb7 : Blk W7 b3 81 #[.int .i64 rd, .slice A2 rl.length c2] := (hg8.block b3 hlt (fun e => by have h1 := (HROW.out.lt b3 e.symm).2; have h2 := HB3W.out; omega)).trans HZ3.out
      refine ⟨hb7.cell 0, hb7.cell 1, ?_⟩
      rw [hc8.2.1.head.cell 13]
      exact (HZ4.out.cell 13).symm.trans z2'
    simp only [List.setIfInBounds_toArray, List.set_cons_zero, List.set_cons_succ]
    obtain ⟨A10, c10, hv10⟩ := own_slN hc8.2.2.head
    dsimp only at hv10
    subst hv10
    have k13 := hc8.2.1.head.cell 13; have f13 := hc8.2.1.head.frozen 13
    have e13 : (RC.setIfInBounds 1 (.int .i64 a2))[13]? = some (.slice A9 xs.length c9) := by rw [← HRC.out]; rfl
    dsimp only at k13
    rw [e13] at k13
    have HC8 := Lib.hid hc8; have HK8 := Lib.hid hk8; have HG8 := Lib.hid hg8
    clear hc8 hk8 hg8 z0 z1 z2 z2' hz3 hz4 hca hnb e13
    refine hPE _ _ ?_
    clear hPE PE
    simp only [List.drop_succ_cons, List.drop_zero, List.drop_nil]
    go_wp2_with fail
    refine ⟨rfl, ?_⟩
    go_wp2_with fail
    go_ret
    have hc9 := cons_store HC8.out HBG.out 13 (.slice A10 (xs.length + 1) c10) (g, 61, RC.setIfInBounds 1 (.int .i64 a2)) (by simp) rfl (by simp)
    simp [setL] at hc9
    have hca := cons_drew (cons_alloc (cons_drop HC6.out) (.cells #[.int .i64 rd, .slice A2 rl.length c2] 81))
    refine ⟨rfl, ⟨.slice A10 (xs.length + 1) c10, A2, c2, ?_, ?_, ?_⟩, hc9.1, fun g' t cs h ht hg' => ?_, fun B' => ?_⟩
    · have h := hc9.2.1.head
      rw [← HRC.out] at h
      exact h
    · have h := hc9.2.2.head
      rw [rowC_app, rowC_one]
      exact h
    · exact hc9.2.2.tail.head
    · exact (HK8.out g' t cs (((h.below HBW.out h.lt).far (p := ⟨g, 1, none⟩) hg' (.int .i64 a2)).alloc (.cells #[.int .i64 rd, .slice A2 rl.length c2] 81)) ht).far (p := ⟨g, 13, none⟩) hg' _
    · exact kf_set (kf_then' (kf_drew (kf_alloc (kf_set (kf_below HBW.out) _ _) _)) (kf_grown (KeepsFrom.refl _ _) HG8.out (own_cells hca.2.2.head))) _ _
end Go.Proofs.YtcojnigkgbmbmaaGreatDoor
