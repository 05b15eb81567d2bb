/- RdP, MBk -/
import Derived.Test.YtcojnigkgbmbmaaGreatDoorK27
import Derived.Deep.DeepCutAuto
import Derived.Test.YtcojnigkgbmbmaaGreatDoorK25
import Derived.Test.YtcojnigkgbmbmaaGreatDoorK16
namespace Go.Proofs.YtcojnigkgbmbmaaGreatDoor
open Go Go.RowKit
attribute [local go_sem] Oper.semAt_some
set_option maxRecDepth 100000 in
set_option maxHeartbeats 4000000 in
theorem rd_partX (g b0 b1 b2 : Nat) (fr : Int) (A : Option Addr) (n c : Nat) (l : List UInt8) (s : RdS) (w : World) (hb : Blk w g 61 (rdC A n c s)) (h0 : Blk w b0 57 #[.pointer (some ⟨g, 0, none⟩)]) (h1 : Blk w b1 3 #[.int .i64 fr]) (h2 : Blk w b2 102 #[.pointer (some ⟨g, 10, none⟩)])
    (hA : Sl w A (l.map byteV)) (hn : l.length = n) (hsz : n ≤ 2 ^ 47) (hi : -9223372036854775808 ≤ s.a ∧ s.a ≤ 9223372036854775807) (hp : partB fr = true) (hd : (treeR vecC vecN l s.a).2.2 = 0 → -16 ≤ (treeR vecC vecN l s.a).1 ∧ (treeR vecC vecN l s.a).1 ≤ 15) (a2 : Int) (ha2 : IntKind.i64.wrap (s.a + (treeR vecC vecN l s.a).2.1) = a2) :
    Calls Tryz.prog 111 #[.pointer (some ⟨b0, 0, none⟩), .pointer (some ⟨b1, 0, none⟩), .pointer (some ⟨b2, 0, none⟩)] w fun e w' =>
      ((treeR vecC vecN l s.a).2.2 ≠ 0 ∧ e = .returned (.int .i64 (treeR vecC vecN l s.a).2.2) ∧ Blk w' g 61 (rdC A n c s) ∧ TurnG g w w') ∨
      ((treeR vecC vecN l s.a).2.2 = 0 ∧ e = .returned (.int .i64 (turnP fr (treeR vecC vecN l s.a).1).2) ∧ Blk w' g 61 (rdC A n c { s with a := a2, mx := (turnP fr (treeR vecC vecN l s.a).1).1 }) ∧ TurnG g w w') := by
  obtain ⟨a, ⟨t0, t1, t2, t3, t4⟩, ad, kd, qu, mx, my, pa, v, x, y⟩ := s
  dsimp only at hi ha2 hd ⊢
  have G := Lib.hid (fun W hW => vector_Get A n c l a W hW hn hsz hi)
  have CT := Lib.hid (fun h3 W => vector_Turn fr (treeR vecC vecN l a).1 W hp (hd h3).1 (hd h3).2)
  obtain ⟨⟨rk, rn, re⟩, hr⟩ : ∃ r, treeR vecC vecN l a = r := ⟨_, rfl⟩
  rw [hr] at G CT ha2 ⊢
  dsimp only at G CT ha2 ⊢
  obtain ⟨⟨tv, te⟩, ht⟩ : ∃ r, turnP fr rk = r := ⟨_, rfl⟩
  rw [ht] at CT ⊢
  dsimp only at CT ⊢
  unfold rdC at *
  dsimp only at *
  have hg0 : g ≠ b0 := blk_ne hb h0 (by simp)
  have hg1 : g ≠ b1 := blk_ne hb h1 (by simp)
  have hg2 : g ≠ b2 := blk_ne hb h2 (by simp)
  have hw : IntKind.i64.wrap (a + rn) = a2 := ha2
  have hbd : Blk w.drew g 61 _ := hb.drewN 1
  have hd0 : Blk w.drew b0 57 _ := h0.drewN 1
  have hd1 : Blk w.drew b1 3 _ := h1.drewN 1
  have hd2 : Blk w.drew b2 102 _ := h2.drewN 1
  have y0 := hbd.cell 0; have y1 := hbd.cell 1; have y2 := hd0.cell 0
  have HBd := Lib.hid hbd; have HD0 := Lib.hid hd0; have HD1 := Lib.hid hd1; have HD2 := Lib.hid hd2
  have HAd := Lib.hid (show Sl w.drew A (l.map byteV) from hA)
  have HG0 := Lib.hid hg0; have HG1 := Lib.hid hg1; have HG2 := Lib.hid hg2
  clear hb hA hr hi ha2 hbd hn hsz hd0 hd1 hd2 h0 h1 h2 hd hp ht hg0 hg1 hg2
  go_enter Tryz.func111, Tryz.ntmps111
  go_wp2_with fail
  refine wp_region_treeN (fun w' => w'.cell? ⟨g, 0, none⟩ = some (.slice A n c) ∧ w'.cell? ⟨g, 1, none⟩ = some (.int .i64 a) ∧ w'.cell? ⟨b0, 0, none⟩ = some (.pointer (some ⟨g, 0, none⟩))) 15 (.take 0 (.take 1 (.take 2 (.take 3 (.take 4 (.take 5 (.take 6 (.take 7 (.step 8 (.take 9 (.take 10 (.take 11 (.take 12 (.step 13 (.step 14 .done))))))))))))))) (by kernel_rfl) (by kernel_rfl) (by simp only [Pln.out, Array.getD_eq_getD_getElem?, List.getElem?_toArray, List.getElem?_cons_zero, List.getElem?_cons_succ, Option.getD_some]; rfl) (by simp only [List.map_cons, List.map_nil]; rfl) (⟨y0, y1, y2⟩) (fun PE hPE => ?_)
  refine tree_take (v := ?_) rfl (by rfl) ?_ ?_
  rotate_left
  · intro _ hSw; (try dsimp only at hSw); obtain ⟨s0, s1, s2⟩ := hSw; go_simp; (try with_reducible rfl)
  simp only [List.setIfInBounds_toArray, List.set_cons_zero, List.set_cons_succ]
  refine tree_take (v := ?_) rfl (by rfl) ?_ ?_
  rotate_left
  · intro _ hSw; (try dsimp only at hSw); obtain ⟨s0, s1, s2⟩ := hSw; go_simp; (try with_reducible rfl)
  simp only [List.setIfInBounds_toArray, List.set_cons_zero, List.set_cons_succ]
  refine tree_take (v := ?_) rfl (by rfl) ?_ ?_
  rotate_left
  · intro _ hSw; (try dsimp only at hSw); obtain ⟨s0, s1, s2⟩ := hSw; go_simp; (try with_reducible rfl)
  simp only [List.setIfInBounds_toArray, List.set_cons_zero, List.set_cons_succ]
  refine tree_take (v := ?_) rfl (by rfl) ?_ ?_
  rotate_left
  · intro _ hSw; (try dsimp only at hSw); obtain ⟨s0, s1, s2⟩ := hSw; go_simp; (try with_reducible rfl)
  simp only [List.setIfInBounds_toArray, List.set_cons_zero, List.set_cons_succ]
  refine tree_take (v := ?_) rfl (by rfl) ?_ ?_
  rotate_left
  · intro _ hSw; (try dsimp only at hSw); obtain ⟨s0, s1, s2⟩ := hSw; go_simp; (try with_reducible rfl)
  simp only [List.setIfInBounds_toArray, List.set_cons_zero, List.set_cons_succ]
  refine tree_take (v := ?_) rfl (by rfl) ?_ ?_
  rotate_left
  · intro _ hSw; (try dsimp only at hSw); obtain ⟨s0, s1, s2⟩ := hSw; go_simp; (try with_reducible rfl)
  simp only [List.setIfInBounds_toArray, List.set_cons_zero, List.set_cons_succ]
  refine tree_take (v := ?_) rfl (by rfl) ?_ ?_
  rotate_left
  · intro _ hSw; (try dsimp only at hSw); obtain ⟨s0, s1, s2⟩ := hSw; go_simp; (try with_reducible rfl)
  simp only [List.setIfInBounds_toArray, List.set_cons_zero, List.set_cons_succ]
  refine tree_take (v := ?_) rfl (by rfl) ?_ ?_
  rotate_left
  · intro _ hSw; (try dsimp only at hSw); obtain ⟨s0, s1, s2⟩ := hSw; go_simp; (try with_reducible rfl)
  simp only [List.setIfInBounds_toArray, List.set_cons_zero, List.set_cons_succ]
  refine tree_call (f := 112) rfl (by rfl) (by first | (go_simp; done) | (go_simp; rfl)) (G.out _ HAd.out) ?_
  rintro e w2 ⟨rfl, hb2⟩
  have hL2 := HBd.out.below hb2 HBd.out.lt
  have hM0 := HD0.out.below hb2 HD0.out.lt
  have hM1 := HD1.out.below hb2 HD1.out.lt
  have hM2 := HD2.out.below hb2 HD2.out.lt
  have HT2 := Lib.hid (turn_then (turn_drew (Turn.refl (fun k => k = g) w)) hb2)
  refine ⟨_, rfl, _, fun _ h => h, ⟨hL2.cell 0, hL2.cell 1, hM0.cell 0⟩, ?_⟩
  simp only [List.setIfInBounds_toArray, List.set_cons_zero, List.set_cons_succ]
  refine tree_take (v := ?_) rfl (by rfl) ?_ ?_
  rotate_left
  · intro _ hSw; (try dsimp only at hSw); go_simp; (try with_reducible rfl)
  simp only [List.setIfInBounds_toArray, List.set_cons_zero, List.set_cons_succ]
  refine tree_take (v := ?_) rfl (by rfl) ?_ ?_
  rotate_left
  · intro _ hSw; (try dsimp only at hSw); go_simp; (try with_reducible rfl)
  simp only [List.setIfInBounds_toArray, List.set_cons_zero, List.set_cons_succ]
  refine tree_take (v := ?_) rfl (by rfl) ?_ ?_
  rotate_left
  · intro _ hSw; (try dsimp only at hSw); go_simp; (try with_reducible rfl)
  simp only [List.setIfInBounds_toArray, List.set_cons_zero, List.set_cons_succ]
  refine tree_take (v := ?_) rfl (by rfl) ?_ ?_
  rotate_left
  · intro _ hSw; (try dsimp only at hSw); go_simp; (try with_reducible rfl)
  simp only [List.setIfInBounds_toArray, List.set_cons_zero, List.set_cons_succ]
  refine tree_value (v := ?_) (w' := ?_) rfl (by rfl) ?_ ?_ ?_
  rotate_left 2
  · go_simp; (try (constructor <;> with_reducible rfl))
  · exact ⟨hL2.cell 0, hL2.cell 1, hM0.cell 0⟩
  simp only [List.setIfInBounds_toArray, List.set_cons_zero, List.set_cons_succ]
  refine tree_value (v := ?_) (w' := ?_) rfl (by rfl) ?_ ?_ ?_
  rotate_left 2
  · go_simp; (try (constructor <;> with_reducible rfl))
  · exact ⟨hL2.cell 0, hL2.cell 1, hM0.cell 0⟩
  simp only [List.setIfInBounds_toArray, List.set_cons_zero, List.set_cons_succ]
  refine hPE _ _ ?_
  clear hPE PE
  simp only [List.drop_succ_cons, List.drop_zero, List.drop_nil]
  have HL2 := Lib.hid hL2; have HM0 := Lib.hid hM0; have HM1 := Lib.hid hM1; have HM2 := Lib.hid hM2
  clear hL2 hM0 hM1 hM2 hb2 y0 y1 y2 HBd HD0 HD1 HD2 HAd G
  go_wp2_with fail
  refine ⟨rfl, ?_⟩
  cases he : (re != 0) with
  | true =>
    have hne : re ≠ 0 := by simpa using he
    have HNE := Lib.hid hne
    clear hne
    go_wp2_with fail
    go_ret
    exact .inl ⟨HNE.out, rfl, HL2.out, HT2.out⟩
  | false =>
    have he0 : re = 0 := by simpa using he
    subst he0
    have CT := Lib.hid (CT.out rfl)
    have z2 := HM0.out.cell 0
    have c1 : w2.cell? ⟨g, 1, none⟩ = some (.int .i64 a) := by rw [HL2.out.cell]; rfl
    have f1 := HL2.out.frozen 1
    have hL3 := HL2.out.set_ 1 (.int .i64 a2)
    simp only [List.setIfInBounds_toArray, List.set_cons_zero, List.set_cons_succ] at hL3
    have hN1 : Blk (World.drew (w2.setCell ⟨g, 1, none⟩ (.int .i64 a2))) b1 3 _ := (HM1.out.far (p := ⟨g, 1, none⟩) HG1.out.symm (.int .i64 a2)).drewN 1
    have hN2 : Blk (World.drew (w2.setCell ⟨g, 1, none⟩ (.int .i64 a2))) b2 102 _ := (HM2.out.far (p := ⟨g, 1, none⟩) HG2.out.symm (.int .i64 a2)).drewN 1
    have HL3 := Lib.hid hL3
    have HN1 := Lib.hid hN1; have HN2 := Lib.hid hN2
    have HT3 := Lib.hid (turn_set HT2.out 1 (.int .i64 a2))
    have u1 := hN1.cell 0; have u2 := hN2.cell 0
    clear hL3 hN1 hN2
    go_upto_region 5 with fail
    clear z2 c1 f1
    refine wp_region_treeN (fun w' => w'.cell? ⟨b1, 0, none⟩ = some (.int .i64 fr) ∧ w'.cell? ⟨b2, 0, none⟩ = some (.pointer (some ⟨g, 10, none⟩))) 9 (.take 0 (.take 1 (.take 2 (.step 3 (.take 4 (.take 5 (.take 6 (.take 7 (.step 8 .done))))))))) (by kernel_rfl) (by kernel_rfl) (by simp only [Pln.out, Array.getD_eq_getD_getElem?, List.getElem?_toArray, List.getElem?_cons_zero, List.getElem?_cons_succ, Option.getD_some]; rfl) (by simp only [List.map_cons, List.map_nil]; rfl) (⟨u1, u2⟩) (fun PE hPE => ?_)
    refine tree_take (v := ?_) rfl (by rfl) ?_ ?_
    rotate_left
    · intro _ hSw; (try dsimp only at hSw); obtain ⟨s1, s2⟩ := hSw; go_simp; (try with_reducible rfl)
    simp only [List.setIfInBounds_toArray, List.set_cons_zero, List.set_cons_succ]
    refine tree_take (v := ?_) rfl (by rfl) ?_ ?_
    rotate_left
    · intro _ hSw; (try dsimp only at hSw); obtain ⟨s1, s2⟩ := hSw; go_simp; (try with_reducible rfl)
    simp only [List.setIfInBounds_toArray, List.set_cons_zero, List.set_cons_succ]
    refine tree_take (v := ?_) rfl (by rfl) ?_ ?_
    rotate_left
    · intro _ hSw; (try dsimp only at hSw); obtain ⟨s1, s2⟩ := hSw; go_simp; (try with_reducible rfl)
    simp only [List.setIfInBounds_toArray, List.set_cons_zero, List.set_cons_succ]
    refine tree_call (f := 113) rfl (by rfl) (by first | (go_simp; done) | (go_simp; rfl)) (CT.out _) ?_
    rintro e w4 ⟨rfl, rfl⟩
    refine ⟨_, rfl, _, fun _ h => h, ⟨u1, u2⟩, ?_⟩
    simp only [List.setIfInBounds_toArray, List.set_cons_zero, List.set_cons_succ]
    refine tree_take (v := ?_) rfl (by rfl) ?_ ?_
    rotate_left
    · intro _ hSw; (try dsimp only at hSw); go_simp; (try with_reducible rfl)
    simp only [List.setIfInBounds_toArray, List.set_cons_zero, List.set_cons_succ]
    refine tree_take (v := ?_) rfl (by rfl) ?_ ?_
    rotate_left
    · intro _ hSw; (try dsimp only at hSw); go_simp; (try with_reducible rfl)
    simp only [List.setIfInBounds_toArray, List.set_cons_zero, List.set_cons_succ]
    refine tree_take (v := ?_) rfl (by rfl) ?_ ?_
    rotate_left
    · intro _ hSw; (try dsimp only at hSw); go_simp; (try with_reducible rfl)
    simp only [List.setIfInBounds_toArray, List.set_cons_zero, List.set_cons_succ]
    refine tree_take (v := ?_) rfl (by rfl) ?_ ?_
    rotate_left
    · intro _ hSw; (try dsimp only at hSw); go_simp; (try with_reducible rfl)
    simp only [List.setIfInBounds_toArray, List.set_cons_zero, List.set_cons_succ]
    have kk := HL3.out.cell 10; have fk := HL3.out.frozen 10
    have hL4 := HL3.out.set_ 10 (.int .i64 tv)
    simp only [List.setIfInBounds_toArray, List.set_cons_zero, List.set_cons_succ] at hL4
    have v1 := (HN1.out.far (p := ⟨g, 10, none⟩) HG1.out.symm (.int .i64 tv)).cell 0
    have v2 := (HN2.out.far (p := ⟨g, 10, none⟩) HG2.out.symm (.int .i64 tv)).cell 0
    refine tree_skip _ (w' := ?_) rfl (by rfl) ?_ ?_ ?_
    rotate_left 1
    · go_simp; (first | (with_reducible rfl) | (constructor <;> with_reducible rfl) | skip)
    · exact ⟨v1, v2⟩
    refine hPE _ _ ?_
    clear hPE PE
    simp only [List.drop_succ_cons, List.drop_zero, List.drop_nil]
    have hL5 : Blk (World.drew ((w2.setCell ⟨g, 1, none⟩ (.int .i64 a2)).setCell ⟨g, 10, none⟩ (.int .i64 tv))) g 61 _ := hL4.drewN 1
    have HT5 := Lib.hid (turn_drew (turn_set HT3.out 10 (.int .i64 tv)))
    clear v1 v2 kk fk u1 u2
    go_wp2_with fail
    refine ⟨rfl, ?_⟩
    go_wp2_with fail
    go_ret
    exact ⟨rfl, hL5, HT5.out⟩
set_option maxRecDepth 100000 in
set_option maxHeartbeats 4000000 in
theorem rd_partY (g b0 b1 b2 : Nat) (fr : Int) (A : Option Addr) (n c : Nat) (l : List UInt8) (s : RdS) (w : World) (hb : Blk w g 61 (rdC A n c s)) (h0 : Blk w b0 57 #[.pointer (some ⟨g, 0, none⟩)]) (h1 : Blk w b1 3 #[.int .i64 fr]) (h2 : Blk w b2 102 #[.pointer (some ⟨g, 11, none⟩)])
    (hA : Sl w A (l.map byteV)) (hn : l.length = n) (hsz : n ≤ 2 ^ 47) (hi : -9223372036854775808 ≤ s.a ∧ s.a ≤ 9223372036854775807) (hp : partB fr = true) (hd : (treeR vecC vecN l s.a).2.2 = 0 → -16 ≤ (treeR vecC vecN l s.a).1 ∧ (treeR vecC vecN l s.a).1 ≤ 15) (a2 : Int) (ha2 : IntKind.i64.wrap (s.a + (treeR vecC vecN l s.a).2.1) = a2) :
    Calls Tryz.prog 111 #[.pointer (some ⟨b0, 0, none⟩), .pointer (some ⟨b1, 0, none⟩), .pointer (some ⟨b2, 0, none⟩)] w fun e w' =>
      ((treeR vecC vecN l s.a).2.2 ≠ 0 ∧ e = .returned (.int .i64 (treeR vecC vecN l s.a).2.2) ∧ Blk w' g 61 (rdC A n c s) ∧ TurnG g w w') ∨
      ((treeR vecC vecN l s.a).2.2 = 0 ∧ e = .returned (.int .i64 (turnP fr (treeR vecC vecN l s.a).1).2) ∧ Blk w' g 61 (rdC A n c { s with a := a2, my := (turnP fr (treeR vecC vecN l s.a).1).1 }) ∧ TurnG g w w') := by
  obtain ⟨a, ⟨t0, t1, t2, t3, t4⟩, ad, kd, qu, mx, my, pa, v, x, y⟩ := s
  dsimp only at hi ha2 hd ⊢
  have G := Lib.hid (fun W hW => vector_Get A n c l a W hW hn hsz hi)
  have CT := Lib.hid (fun h3 W => vector_Turn fr (treeR vecC vecN l a).1 W hp (hd h3).1 (hd h3).2)
  obtain ⟨⟨rk, rn, re⟩, hr⟩ : ∃ r, treeR vecC vecN l a = r := ⟨_, rfl⟩
  rw [hr] at G CT ha2 ⊢
  dsimp only at G CT ha2 ⊢
  obtain ⟨⟨tv, te⟩, ht⟩ : ∃ r, turnP fr rk = r := ⟨_, rfl⟩
  rw [ht] at CT ⊢
  dsimp only at CT ⊢
  unfold rdC at *
  dsimp only at *
  have hg0 : g ≠ b0 := blk_ne hb h0 (by simp)
  have hg1 : g ≠ b1 := blk_ne hb h1 (by simp)
  have hg2 : g ≠ b2 := blk_ne hb h2 (by simp)
  have hw : IntKind.i64.wrap (a + rn) = a2 := ha2
  have hbd : Blk w.drew g 61 _ := hb.drewN 1
  have hd0 : Blk w.drew b0 57 _ := h0.drewN 1
  have hd1 : Blk w.drew b1 3 _ := h1.drewN 1
  have hd2 : Blk w.drew b2 102 _ := h2.drewN 1
  have y0 := hbd.cell 0; have y1 := hbd.cell 1; have y2 := hd0.cell 0
  have HBd := Lib.hid hbd; have HD0 := Lib.hid hd0; have HD1 := Lib.hid hd1; have HD2 := Lib.hid hd2
  have HAd := Lib.hid (show Sl w.drew A (l.map byteV) from hA)
  have HG0 := Lib.hid hg0; have HG1 := Lib.hid hg1; have HG2 := Lib.hid hg2
  clear hb hA hr hi ha2 hbd hn hsz hd0 hd1 hd2 h0 h1 h2 hd hp ht hg0 hg1 hg2
  go_enter Tryz.func111, Tryz.ntmps111
  go_wp2_with fail
  refine wp_region_treeN (fun w' => w'.cell? ⟨g, 0, none⟩ = some (.slice A n c) ∧ w'.cell? ⟨g, 1, none⟩ = some (.int .i64 a) ∧ w'.cell? ⟨b0, 0, none⟩ = some (.pointer (some ⟨g, 0, none⟩))) 15 (.take 0 (.take 1 (.take 2 (.take 3 (.take 4 (.take 5 (.take 6 (.take 7 (.step 8 (.take 9 (.take 10 (.take 11 (.take 12 (.step 13 (.step 14 .done))))))))))))))) (by kernel_rfl) (by kernel_rfl) (by simp only [Pln.out, Array.getD_eq_getD_getElem?, List.getElem?_toArray, List.getElem?_cons_zero, List.getElem?_cons_succ, Option.getD_some]; rfl) (by simp only [List.map_cons, List.map_nil]; rfl) (⟨y0, y1, y2⟩) (fun PE hPE => ?_)
  refine tree_take (v := ?_) rfl (by rfl) ?_ ?_
  rotate_left
  · intro _ hSw; (try dsimp only at hSw); obtain ⟨s0, s1, s2⟩ := hSw; go_simp; (try with_reducible rfl)
  simp only [List.setIfInBounds_toArray, List.set_cons_zero, List.set_cons_succ]
  refine tree_take (v := ?_) rfl (by rfl) ?_ ?_
  rotate_left
  · intro _ hSw; (try dsimp only at hSw); obtain ⟨s0, s1, s2⟩ := hSw; go_simp; (try with_reducible rfl)
  simp only [List.setIfInBounds_toArray, List.set_cons_zero, List.set_cons_succ]
  refine tree_take (v := ?_) rfl (by rfl) ?_ ?_
  rotate_left
  · intro _ hSw; (try dsimp only at hSw); obtain ⟨s0, s1, s2⟩ := hSw; go_simp; (try with_reducible rfl)
  simp only [List.setIfInBounds_toArray, List.set_cons_zero, List.set_cons_succ]
  refine tree_take (v := ?_) rfl (by rfl) ?_ ?_
  rotate_left
  · intro _ hSw; (try dsimp only at hSw); obtain ⟨s0, s1, s2⟩ := hSw; go_simp; (try with_reducible rfl)
  simp only [List.setIfInBounds_toArray, List.set_cons_zero, List.set_cons_succ]
  refine tree_take (v := ?_) rfl (by rfl) ?_ ?_
  rotate_left
  · intro _ hSw; (try dsimp only at hSw); obtain ⟨s0, s1, s2⟩ := hSw; go_simp; (try with_reducible rfl)
  simp only [List.setIfInBounds_toArray, List.set_cons_zero, List.set_cons_succ]
  refine tree_take (v := ?_) rfl (by rfl) ?_ ?_
  rotate_left
  · intro _ hSw; (try dsimp only at hSw); obtain ⟨s0, s1, s2⟩ := hSw; go_simp; (try with_reducible rfl)
  simp only [List.setIfInBounds_toArray, List.set_cons_zero, List.set_cons_succ]
  refine tree_take (v := ?_) rfl (by rfl) ?_ ?_
  rotate_left
  · intro _ hSw; (try dsimp only at hSw); obtain ⟨s0, s1, s2⟩ := hSw; go_simp; (try with_reducible rfl)
  simp only [List.setIfInBounds_toArray, List.set_cons_zero, List.set_cons_succ]
  refine tree_take (v := ?_) rfl (by rfl) ?_ ?_
  rotate_left
  · intro _ hSw; (try dsimp only at hSw); obtain ⟨s0, s1, s2⟩ := hSw; go_simp; (try with_reducible rfl)
  simp only [List.setIfInBounds_toArray, List.set_cons_zero, List.set_cons_succ]
  refine tree_call (f := 112) rfl (by rfl) (by first | (go_simp; done) | (go_simp; rfl)) (G.out _ HAd.out) ?_
  rintro e w2 ⟨rfl, hb2⟩
  have hL2 := HBd.out.below hb2 HBd.out.lt
  have hM0 := HD0.out.below hb2 HD0.out.lt
  have hM1 := HD1.out.below hb2 HD1.out.lt
  have hM2 := HD2.out.below hb2 HD2.out.lt
  have HT2 := Lib.hid (turn_then (turn_drew (Turn.refl (fun k => k = g) w)) hb2)
  refine ⟨_, rfl, _, fun _ h => h, ⟨hL2.cell 0, hL2.cell 1, hM0.cell 0⟩, ?_⟩
  simp only [List.setIfInBounds_toArray, List.set_cons_zero, List.set_cons_succ]
  refine tree_take (v := ?_) rfl (by rfl) ?_ ?_
  rotate_left
  · intro _ hSw; (try dsimp only at hSw); go_simp; (try with_reducible rfl)
  simp only [List.setIfInBounds_toArray, List.set_cons_zero, List.set_cons_succ]
  refine tree_take (v := ?_) rfl (by rfl) ?_ ?_
  rotate_left
  · intro _ hSw; (try dsimp only at hSw); go_simp; (try with_reducible rfl)
  simp only [List.setIfInBounds_toArray, List.set_cons_zero, List.set_cons_succ]
  refine tree_take (v := ?_) rfl (by rfl) ?_ ?_
  rotate_left
  · intro _ hSw; (try dsimp only at hSw); go_simp; (try with_reducible rfl)
  simp only [List.setIfInBounds_toArray, List.set_cons_zero, List.set_cons_succ]
  refine tree_take (v := ?_) rfl (by rfl) ?_ ?_
  rotate_left
  · intro _ hSw; (try dsimp only at hSw); go_simp; (try with_reducible rfl)
  simp only [List.setIfInBounds_toArray, List.set_cons_zero, List.set_cons_succ]
  refine tree_value (v := ?_) (w' := ?_) rfl (by rfl) ?_ ?_ ?_
  rotate_left 2
  · go_simp; (try (constructor <;> with_reducible rfl))
  · exact ⟨hL2.cell 0, hL2.cell 1, hM0.cell 0⟩
  simp only [List.setIfInBounds_toArray, List.set_cons_zero, List.set_cons_succ]
  refine tree_value (v := ?_) (w' := ?_) rfl (by rfl) ?_ ?_ ?_
  rotate_left 2
  · go_simp; (try (constructor <;> with_reducible rfl))
  · exact ⟨hL2.cell 0, hL2.cell 1, hM0.cell 0⟩
  simp only [List.setIfInBounds_toArray, List.set_cons_zero, List.set_cons_succ]
  refine hPE _ _ ?_
  clear hPE PE
  simp only [List.drop_succ_cons, List.drop_zero, List.drop_nil]
  have HL2 := Lib.hid hL2; have HM0 := Lib.hid hM0; have HM1 := Lib.hid hM1; have HM2 := Lib.hid hM2
  clear hL2 hM0 hM1 hM2 hb2 y0 y1 y2 HBd HD0 HD1 HD2 HAd G
  go_wp2_with fail
  refine ⟨rfl, ?_⟩
  cases he : (re != 0) with
  | true =>
    have hne : re ≠ 0 := by simpa using he
    have HNE := Lib.hid hne
    clear hne
    go_wp2_with fail
    go_ret
    exact .inl ⟨HNE.out, rfl, HL2.out, HT2.out⟩
  | false =>
    have he0 : re = 0 := by simpa using he
    subst he0
    have CT := Lib.hid (CT.out rfl)
    have z2 := HM0.out.cell 0
    have c1 : w2.cell? ⟨g, 1, none⟩ = some (.int .i64 a) := by rw [HL2.out.cell]; rfl
    have f1 := HL2.out.frozen 1
    have hL3 := HL2.out.set_ 1 (.int .i64 a2)
    simp only [List.setIfInBounds_toArray, List.set_cons_zero, List.set_cons_succ] at hL3
    have hN1 : Blk (World.drew (w2.setCell ⟨g, 1, none⟩ (.int .i64 a2))) b1 3 _ := (HM1.out.far (p := ⟨g, 1, none⟩) HG1.out.symm (.int .i64 a2)).drewN 1
    have hN2 : Blk (World.drew (w2.setCell ⟨g, 1, none⟩ (.int .i64 a2))) b2 102 _ := (HM2.out.far (p := ⟨g, 1, none⟩) HG2.out.symm (.int .i64 a2)).drewN 1
    have HL3 := Lib.hid hL3
    have HN1 := Lib.hid hN1; have HN2 := Lib.hid hN2
    have HT3 := Lib.hid (turn_set HT2.out 1 (.int .i64 a2))
    have u1 := hN1.cell 0; have u2 := hN2.cell 0
    clear hL3 hN1 hN2
    go_upto_region 5 with fail
    clear z2 c1 f1
    refine wp_region_treeN (fun w' => w'.cell? ⟨b1, 0, none⟩ = some (.int .i64 fr) ∧ w'.cell? ⟨b2, 0, none⟩ = some (.pointer (some ⟨g, 11, none⟩))) 9 (.take 0 (.take 1 (.take 2 (.step 3 (.take 4 (.take 5 (.take 6 (.take 7 (.step 8 .done))))))))) (by kernel_rfl) (by kernel_rfl) (by simp only [Pln.out, Array.getD_eq_getD_getElem?, List.getElem?_toArray, List.getElem?_cons_zero, List.getElem?_cons_succ, Option.getD_some]; rfl) (by simp only [List.map_cons, List.map_nil]; rfl) (⟨u1, u2⟩) (fun PE hPE => ?_)
    refine tree_take (v := ?_) rfl (by rfl) ?_ ?_
    rotate_left
    · intro _ hSw; (try dsimp only at hSw); obtain ⟨s1, s2⟩ := hSw; go_simp; (try with_reducible rfl)
    simp only [List.setIfInBounds_toArray, List.set_cons_zero, List.set_cons_succ]
    refine tree_take (v := ?_) rfl (by rfl) ?_ ?_
    rotate_left
    · intro _ hSw; (try dsimp only at hSw); obtain ⟨s1, s2⟩ := hSw; go_simp; (try with_reducible rfl)
    simp only [List.setIfInBounds_toArray, List.set_cons_zero, List.set_cons_succ]
    refine tree_take (v := ?_) rfl (by rfl) ?_ ?_
    rotate_left
    · intro _ hSw; (try dsimp only at hSw); obtain ⟨s1, s2⟩ := hSw; go_simp; (try with_reducible rfl)
    simp only [List.setIfInBounds_toArray, List.set_cons_zero, List.set_cons_succ]
    refine tree_call (f := 113) rfl (by rfl) (by first | (go_simp; done) | (go_simp; rfl)) (CT.out _) ?_
    rintro e w4 ⟨rfl, rfl⟩
    refine ⟨_, rfl, _, fun _ h => h, ⟨u1, u2⟩, ?_⟩
    simp only [List.setIfInBounds_toArray, List.set_cons_zero, List.set_cons_succ]
    refine tree_take (v := ?_) rfl (by rfl) ?_ ?_
    rotate_left
    · intro _ hSw; (try dsimp only at hSw); go_simp; (try with_reducible rfl)
    simp only [List.setIfInBounds_toArray, List.set_cons_zero, List.set_cons_succ]
    refine tree_take (v := ?_) rfl (by rfl) ?_ ?_
    rotate_left
    · intro _ hSw; (try dsimp only at hSw); go_simp; (try with_reducible rfl)
    simp only [List.setIfInBounds_toArray, List.set_cons_zero, List.set_cons_succ]
    refine tree_take (v := ?_) rfl (by rfl) ?_ ?_
    rotate_left
    · intro _ hSw; (try dsimp only at hSw); go_simp; (try with_reducible rfl)
    simp only [List.setIfInBounds_toArray, List.set_cons_zero, List.set_cons_succ]
    refine tree_take (v := ?_) rfl (by rfl) ?_ ?_
    rotate_left
    · intro _ hSw; (try dsimp only at hSw); go_simp; (try with_reducible rfl)
    simp only [List.setIfInBounds_toArray, List.set_cons_zero, List.set_cons_succ]
    have kk := HL3.out.cell 11; have fk := HL3.out.frozen 11
    have hL4 := HL3.out.set_ 11 (.int .i64 tv)
    simp only [List.setIfInBounds_toArray, List.set_cons_zero, List.set_cons_succ] at hL4
    have v1 := (HN1.out.far (p := ⟨g, 11, none⟩) HG1.out.symm (.int .i64 tv)).cell 0
    have v2 := (HN2.out.far (p := ⟨g, 11, none⟩) HG2.out.symm (.int .i64 tv)).cell 0
    refine tree_skip _ (w' := ?_) rfl (by rfl) ?_ ?_ ?_
    rotate_left 1
    · go_simp; (first | (with_reducible rfl) | (constructor <;> with_reducible rfl) | skip)
    · exact ⟨v1, v2⟩
    refine hPE _ _ ?_
    clear hPE PE
    simp only [List.drop_succ_cons, List.drop_zero, List.drop_nil]
    have hL5 : Blk (World.drew ((w2.setCell ⟨g, 1, none⟩ (.int .i64 a2)).setCell ⟨g, 11, none⟩ (.int .i64 tv))) g 61 _ := hL4.drewN 1
    have HT5 := Lib.hid (turn_drew (turn_set HT3.out 11 (.int .i64 tv)))
    clear v1 v2 kk fk u1 u2
    go_wp2_with fail
    refine ⟨rfl, ?_⟩
    go_wp2_with fail
    go_ret
    exact ⟨rfl, hL5, HT5.out⟩
end Go.Proofs.YtcojnigkgbmbmaaGreatDoor
namespace Go.Proofs.YtcojnigkgbmbmaaGreatDoor
open Go Go.RowKit
attribute [local go_sem] Oper.semAt_some
/-- a block, and where its pairs lie. -/
abbrev BkE : Type := BlkM × Option Addr × Nat
def bkC (p : BkE) : List Value := [.int .i64 p.1.dc, .slice p.2.1 p.1.l.length p.2.2]
theorem bkC_len (p : BkE) : (bkC p).length = 2 := rfl
structure BksAt (W : World) (A : Option Addr) (xs : List BkE) : Prop where
  row : Sl W A (rowC bkC xs)
  bl : ∀ p ∈ xs, Sl W p.2.1 (rowC pairC p.1.l)
  len : xs.length ≤ 64
  lens : ∀ p ∈ xs, p.1.l.length ≤ 1000
theorem BksAt.below {W W' : World} {A : Option Addr} {xs : List BkE} (h : BksAt W A xs) {B : Nat} (hb : Below B W W') (hB : W.heap.size ≤ B) : BksAt W' A xs :=
  ⟨h.row.below (hb.mono hB), fun p hp => (h.bl p hp).below (hb.mono hB), h.len, h.lens⟩
theorem sl_bk {w : World} {A : Option Addr} {xs : List BkE} (h : Sl w A (rowC bkC xs)) (i : Nat) (hi : i < xs.length) : ∃ ad, A = some ad ∧ ad.block < w.heap.size ∧ w.cell? (ad.add (i * 2)) = some (.int .i64 xs[i].1.dc) ∧ w.cell? ⟨(ad.add (i * 2)).block, (ad.add (i * 2)).off + 1, none⟩ = some (.slice xs[i].2.1 xs[i].1.l.length xs[i].2.2) := by
  have h0 := rowC_get bkC_len xs i hi 0 (by decide)
  have h1 := rowC_get bkC_len xs i hi 1 (by decide)
  rw [Nat.add_zero] at h0
  obtain ⟨ad, rfl, hl, c0⟩ := h _ _ (h0.trans rfl)
  obtain ⟨ad', e, _, c1⟩ := h _ _ (h1.trans rfl)
  cases e
  rw [← addr_add_add] at c1
  exact ⟨ad, rfl, hl, c0, c1⟩
def badB (intra : Bool) (p : BkE) : Bool := bchkP p.1 intra != 0
set_option maxRecDepth 100000 in
theorem check_block (g : Nat) (x : BlkM) (A : Option Addr) (n c : Nat) (b0 b1 b2 b3 b4 : Bool) (w : World) (hg : Blk w g 59 #[.bool b0, .bool b1, .bool b2, .bool b3, .bool b4]) (hS : Sl w A (rowC pairC x.l)) (hn : x.l.length = n) (hsz : n ≤ 1000) :
    Calls Tryz.prog 62 #[.agg #[.int .i64 x.dc, .slice A n c], .pointer (some ⟨g, 0, none⟩)] w fun e w' => e = .returned (.bool (bchkP x b0 != 0)) ∧ Below w.heap.size w w' := by
  have hB0 : Below w.heap.size w (w.alloc (.cells #[.int .i64 x.dc, .slice A n c] 81)) := (Below.refl _ _).alloc (Nat.le_refl _) _
  have C := Lib.hid (fun W hW => block_Check x A n c b0 W hW hn (by omega))
  have HS := Lib.hid (hS.below hB0)
  have HB0 := Lib.hid hB0
  have hz := hg.alloc (.cells #[.int .i64 x.dc, .slice A n c] 81)
  have z0 := hz.cell 0
  obtain ⟨r, hr⟩ : ∃ r, bchkP x b0 = r := ⟨_, rfl⟩
  rw [hr] at C ⊢
  clear hg hS hn hB0 hr hz
  go_enter Tryz.func62, Tryz.ntmps62
  go_wp2_with (go_at_call 63; refine (C.out _ HS.out).mono ?_; rintro e w2 ⟨rfl, hb2⟩; have HB2 := Lib.hid hb2; clear hb2)
  go_ret
  exact ⟨rfl, HB0.out.trans (HB2.out.mono HB0.out.size)⟩
set_option maxRecDepth 100000 in
theorem index_block (A : Option Addr) (c : Nat) (xs : List BkE) (g : Nat) (b0 b1 b2 b3 b4 : Bool) (w : World) (hA : BksAt w A xs) (hg : Blk w g 59 #[.bool b0, .bool b1, .bool b2, .bool b3, .bool b4]) :
    Calls Tryz.prog 105 #[.slice A xs.length c, .func (.func 62) #[] #[.pointer (some ⟨g, 0, none⟩)]] w fun e w' => e = .returned (.int .i64 (if xs.any (badB b0) then ((xs.findIdx (badB b0) : Nat) : Int) else -1)) ∧ Below w.heap.size w w' := by
  have HA := Lib.hid hA; have HG := Lib.hid hg
  have hl64 := hA.len
  clear hA hg
  obtain ⟨n, hn⟩ : ∃ n, xs.length = n := ⟨_, rfl⟩
  rw [hn] at hl64 ⊢
  have HN := Lib.hid hn
  obtain ⟨RES, hres⟩ : ∃ RES : Int, (if xs.any (badB b0) then ((xs.findIdx (badB b0) : Nat) : Int) else -1) = RES := ⟨_, rfl⟩
  rw [hres]
  have HRES := Lib.hid hres
  clear hn hres
  go_enter Tryz.func105, Tryz.ntmps105
  go_wp2_with fail
  go_loopg [8] n (fun g i => fun wr => ∃ (j : Nat), j + g = n ∧ i = .int .i64 (j : Int) ∧ Hid (∀ k (h : k < xs.length), k < j → badB b0 xs[k] = false) ∧ Hid (Below w.heap.size w wr))
  case atStart => exact ⟨0, by omega, rfl, Lib.hid (fun k h h2 => by omega), Lib.hid (Below.refl _ _)⟩
  case round =>
    obtain ⟨j, hj, rfl, HJ, HB⟩ := hrel
    cases gk with
    | zero =>
      have hlt : ¬ ((j : Int) < (n : Int)) := by omega
      have hR1 : RES = -1 := by
        rw [← HRES.out, if_neg]
        rw [List.any_eq_true]
        rintro ⟨p, hp, hb⟩
        obtain ⟨k, hk, rfl⟩ := List.getElem_of_mem hp
        rw [HJ.out k hk (by have := HN.out; omega)] at hb
        cases hb
      subst hR1
      go_wp2_with fail
      go_ret
      exact ⟨rfl, HB.out⟩
    | succ g =>
      have hlt : ((j : Int) < (n : Int)) := by omega
      have hjl : j < xs.length := by rw [HN.out]; omega
      obtain ⟨ad, rfl, _, c0, c1⟩ := sl_bk (HA.out.row.below HB.out) j hjl
      have hC := check_block _ xs[j].1 xs[j].2.1 xs[j].1.l.length xs[j].2.2 b0 b1 b2 b3 b4 wr (HG.out.below HB.out HG.out.lt) ((HA.out.bl _ (List.getElem_mem hjl)).below HB.out) rfl (HA.out.lens _ (List.getElem_mem hjl))
      have hbad : badB b0 xs[j] = (bchkP xs[j].1 b0 != 0) := rfl
      have hw1 : IntKind.i64.wrap ((j : Int) + 1) = (j : Int) + 1 := by rw [IntKind.wrap_i64]; omega
      cases hb : (bchkP xs[j].1 b0 != 0) with
      | true =>
        rw [hb] at hC hbad
        have hR1 : RES = (j : Int) := by
          rw [← HRES.out, if_pos]
          · congr 1
            have h1 : xs.findIdx (badB b0) = j := by
              rw [List.findIdx_eq hjl]
              exact ⟨hbad, fun k hk => HJ.out k (by omega) hk⟩
            rw [h1]
          · rw [List.any_eq_true]; exact ⟨xs[j], List.getElem_mem hjl, hbad⟩
        subst hR1
        have HC := Lib.hid hC
        clear hC hbad hb hj
        go_wp2_with (go_at_call 62; refine HC.out.mono ?_; rintro e w2 ⟨rfl, hb2⟩; have HB2 := Lib.hid hb2; clear hb2)
        go_ret
        exact ⟨rfl, HB.out.trans (HB2.out.mono HB.out.size)⟩
      | false =>
        rw [hb] at hC hbad
        have HC := Lib.hid hC; have HBAD := Lib.hid hbad; have HJ2 := Lib.hid hj
        clear hC hbad hb hj
        go_wp2_with (go_at_call 62; refine HC.out.mono ?_; rintro e w2 ⟨rfl, hb2⟩; have HB2 := Lib.hid hb2; clear hb2)
        go_roundg g
        case measure => omega
        case rel =>
          refine ⟨j + 1, by have := HJ2.out; omega, rfl, Lib.hid fun k h hk => ?_, Lib.hid (HB.out.trans (HB2.out.mono HB.out.size))⟩
          rcases Nat.lt_or_ge k j with h1 | h1
          · exact HJ.out k h h1
          · obtain rfl : k = j := by omega
            exact HBAD.out
theorem contains_block (A : Option Addr) (c : Nat) (xs : List BkE) (g : Nat) (b0 b1 b2 b3 b4 : Bool) (w : World) (hA : BksAt w A xs) (hg : Blk w g 59 #[.bool b0, .bool b1, .bool b2, .bool b3, .bool b4]) :
    Calls Tryz.prog 61 #[.slice A xs.length c, .func (.func 62) #[] #[.pointer (some ⟨g, 0, none⟩)]] w fun e w' => e = .returned (.bool (xs.any (badB b0))) ∧ Below w.heap.size w w' := by
  have C := Lib.hid (index_block A c xs g b0 b1 b2 b3 b4 w hA hg)
  clear hA hg
  generalize xs.length = n at C ⊢
  generalize xs.findIdx (badB b0) = k at C
  cases hb : xs.any (badB b0) with
  | true =>
    rw [hb, if_pos rfl] at C
    have hk : (0 : Int) ≤ (k : Int) := by omega
    clear hb
    go_enter Tryz.func61, Tryz.ntmps61
    go_wp2_with (go_at_call 105; refine C.out.mono ?_; rintro e w2 ⟨rfl, hb2⟩; have HB2 := Lib.hid hb2; clear hb2)
    go_ret
    exact ⟨rfl, HB2.out⟩
  | false =>
    rw [hb, if_neg (by decide)] at C
    clear hb
    go_enter Tryz.func61, Tryz.ntmps61
    go_wp2_with (go_at_call 105; refine C.out.mono ?_; rintro e w2 ⟨rfl, hb2⟩; have HB2 := Lib.hid hb2; clear hb2)
    go_ret
    exact ⟨rfl, HB2.out⟩
end Go.Proofs.YtcojnigkgbmbmaaGreatDoor
