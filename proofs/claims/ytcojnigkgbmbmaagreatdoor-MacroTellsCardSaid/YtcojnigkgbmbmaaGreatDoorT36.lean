/- Tell19 -/
import Derived.Test.YtcojnigkgbmbmaaGreatDoorT34
import Derived.Test.YtcojnigkgbmbmaaGreatDoorT35
import Derived.Test.YtcojnigkgbmbmaaGreatDoorT31
import Derived.Test.YtcojnigkgbmbmaaGreatDoorT18
namespace Go.Proofs.YtcojnigkgbmbmaaGreatDoor
open Go Go.RowKit
attribute [local go_sem] Oper.semAt_some
set_option maxRecDepth 100000 in
set_option maxHeartbeats 16000000 in
theorem law19_Tells (m : MacM) (xs : List BkE) (A : Option Addr) (c : Nat) (x : LastM) (w : World) (hm : m.bl = xs.map (·.1)) (hA : Sl w A (rowC bkC xs)) (hbl : ∀ p ∈ xs, Sl w p.2.1 (rowC pairC p.1.l)) (hT : Tz w) (hTs : Ts w) :
    Calls Tryz.prog 4 #[macV m A xs.length c, lastV x] w fun e w' => e = .returned (.bool true) ∧ Below w.heap.size w w' := by
  have HT := Lib.hid hT; have HS := Lib.hid hTs; have HA := Lib.hid hA; have HBL := Lib.hid hbl; have HM := Lib.hid hm
  have hb1 := ((Below.refl w.heap.size w).alloc (Nat.le_refl _) (.cells #[.int .i64 m.ad, .int .i64 m.kd, .int .i64 m.qu, .int .i64 m.x, .int .i64 m.y, .int .i64 m.pa, .slice A xs.length c] 29)).alloc (by simp) (.cells #[.int .i64 x.ad, .bool x.had, .int .i64 x.x, .int .i64 x.y] 24)
  have hcl : CellsAt [(w.heap.size, 29, #[.int .i64 m.ad, .int .i64 m.kd, .int .i64 m.qu, .int .i64 m.x, .int .i64 m.y, .int .i64 m.pa, .slice A xs.length c]), (w.heap.size + 1, 24, #[.int .i64 x.ad, .bool x.had, .int .i64 x.x, .int .i64 x.y])]
      ((w.alloc (.cells #[.int .i64 m.ad, .int .i64 m.kd, .int .i64 m.qu, .int .i64 m.x, .int .i64 m.y, .int .i64 m.pa, .slice A xs.length c] 29)).alloc (.cells #[.int .i64 x.ad, .bool x.had, .int .i64 x.x, .int .i64 x.y] 24)) := by
    refine CellsAt.cons ?_ (CellsAt.cons ?_ (cellsAt_nil _))
    · exact (Blk.new w _ _).alloc _
    · exact blkAt (Blk.new _ _ _) (by simp)
  have HB1 := Lib.hid hb1; have HCL := Lib.hid hcl
  have HLO := Lib.hid (fun W hW => law19_Long m xs A c W hW)
  have hlen : longP xs = false → ∀ W, Below w.heap.size w W → BksAt W A xs := fun h W hb => ⟨HA.out.below hb, fun p hp => (HBL.out p hp).below hb, by have := (long_not h).1; omega, fun p hp => by have := (long_not h).2 p hp; omega⟩
  have HBK := Lib.hid hlen
  have HCM := Lib.hid (fun W hW => kit_CopyMacro m xs A c W hW)
  have HP1 := Lib.hid (fun ys A' c' W (hy : ys.map (·.1) = xs.map (·.1)) h1 h2 h3 => macro_Put m x ys A' c' W (HM.out.trans hy.symm) h1 h2 h3)
  have HK1 := Lib.hid (fun ys A' c' W (hy : ys.map (·.1) = xs.map (·.1)) h1 => macro_Check m ys A' c' W (HM.out.trans hy.symm) h1)
  have HF1 := Lib.hid (fun A' n' c' W => macro_After m A' n' c' W)
  have HP2 := Lib.hid (fun W h1 => ref19_Put m x xs A c W HM.out h1)
  have HK2 := Lib.hid (fun W h1 => ref19_Check m xs A c W HM.out h1)
  have HF2 := Lib.hid (fun W => ref19_After m A xs.length c W)
  have HSM := Lib.hid (fun ys A' c' W (hy : ys.map (·.1) = xs.map (·.1)) h1 h2 => kit_SameMacro m m ys xs A' A c' c W (HM.out.trans hy.symm) HM.out h1 h2)
  rw [sameM_iff.2 rfl] at HSM
  obtain ⟨⟨s1, e1⟩, hr1⟩ : ∃ r, mputP m x = r := ⟨_, rfl⟩
  rw [hr1] at HP1 HP2
  obtain ⟨ck, hck⟩ : ∃ r : Int, (if okM m then 0 else 2) = r := ⟨_, rfl⟩
  rw [hck] at HK1 HK2
  obtain ⟨⟨f1, f2, f3, f4⟩, hf⟩ : ∃ r, aftP m = r := ⟨_, rfl⟩
  rw [hf] at HF1 HF2
  clear hT hTs hA hbl hm hb1 hcl hlen hr1 hck hf
  unfold macV lastV at *
  unfold CMPost macV at HCM
  obtain ⟨ad, kd, qu, mx, my, pa, bl⟩ := m
  obtain ⟨a1, d1, x1, y1⟩ := x
  dsimp only at HB1 HCL HLO HP1 HP2 HK1 HK2 HF1 HF2 HSM HCM HM ⊢
  obtain ⟨n, hn⟩ : ∃ n, xs.length = n := ⟨_, rfl⟩
  rw [hn] at HB1 HCL HLO HCM HP2 HK2 HF2 HSM ⊢
  clear hn
  have m0 := HCL.out.head.cell 0; have m1 := HCL.out.head.cell 1; have m2 := HCL.out.head.cell 2; have m3 := HCL.out.head.cell 3; have m4 := HCL.out.head.cell 4; have m5 := HCL.out.head.cell 5; have m6 := HCL.out.head.cell 6
  simp at m0 m1 m2 m3 m4 m5 m6
  go_enter Tryz.func4, Tryz.ntmps4
  go_wp2_with fail
  refine (HLO.out _ (HA.out.below HB1.out)).mono ?_
  rintro e w2 ⟨rfl, hb⟩
  have CL2 := Lib.hid (HCL.out.below hb)
  have B2 := Lib.hid (HB1.out.trans (hb.mono HB1.out.size))
  clear hb HB1 HCL m0 m1 m2 m3 m4 m5 m6
  cases hl : longP xs with
  | true =>
    go_wp2_with fail
    refine (law19_awake _ (HT.out.below B2.out) (HS.out.below B2.out)).mono ?_
    rintro e w3 ⟨rfl, hb⟩
    have B3 := Lib.hid (B2.out.trans (hb.mono B2.out.size))
    clear hb
    go_wp2_with fail
    go_ret
    exact ⟨rfl, B3.out⟩
  | false =>
  have HBKW := Lib.hid (HBK.out hl)
  have m0 := CL2.out.head.cell 0; have m1 := CL2.out.head.cell 1; have m2 := CL2.out.head.cell 2; have m3 := CL2.out.head.cell 3; have m4 := CL2.out.head.cell 4; have m5 := CL2.out.head.cell 5; have m6 := CL2.out.head.cell 6
  simp at m0 m1 m2 m3 m4 m5 m6
  clear hl HBK HLO
  go_wp2_with fail
  refine (HCM.out _ (HBKW.out _ B2.out)).mono ?_
  rintro e w3 ⟨A9, c9, ys, rfl, hy, hb3, hk3⟩
  obtain ⟨k, hk⟩ : ∃ k, ys.length = k := ⟨_, rfl⟩
  rw [hk]
  obtain ⟨g5, hg5⟩ : ∃ g, w3.heap.size = g := ⟨_, rfl⟩
  have B3 := B2.out.trans (hb3.mono B2.out.size)
  have cl4 : CellsAt [(g5, 29, #[.int .i64 ad, .int .i64 kd, .int .i64 qu, .int .i64 mx, .int .i64 my, .int .i64 pa, .slice A9 k c9]), (w.heap.size, 29, #[.int .i64 ad, .int .i64 kd, .int .i64 qu, .int .i64 mx, .int .i64 my, .int .i64 pa, .slice A n c]), (w.heap.size + 1, 24, #[.int .i64 a1, .bool d1, .int .i64 x1, .int .i64 y1])] (w3.alloc (.cells #[.int .i64 ad, .int .i64 kd, .int .i64 qu, .int .i64 mx, .int .i64 my, .int .i64 pa, .slice A9 k c9] 29)) :=
    CellsAt.cons (blkAt (Blk.new w3 _ _) hg5) ((CL2.out.below hb3).alloc _)
  have B4 := Lib.hid (B3.alloc B3.size (.cells #[.int .i64 ad, .int .i64 kd, .int .i64 qu, .int .i64 mx, .int .i64 my, .int .i64 pa, .slice A9 k c9] 29))
  have HKY : Hid (∀ W, Below w3.heap.size w3 W → BksAt W A9 ys) := Lib.hid (fun W hb => hk3.below hb (Nat.le_refl _))
  have HW4 := Lib.hid ((Below.refl _ w3).alloc (Nat.le_refl _) (.cells #[.int .i64 ad, .int .i64 kd, .int .i64 qu, .int .i64 mx, .int .i64 my, .int .i64 pa, .slice A9 k c9] 29))
  have HY := Lib.hid hy; have HK := Lib.hid hk
  have CL4 := Lib.hid cl4
  clear m0 m1 m2 m3 m4 m5 m6 hb3 hk3 hy hk B3 B2 CL2 HCM
  have l0 := cl4.tail.tail.head.cell 0; have l1 := cl4.tail.tail.head.cell 1; have l2 := cl4.tail.tail.head.cell 2; have l3 := cl4.tail.tail.head.cell 3
  simp at l0 l1 l2 l3
  clear cl4
  go_wp2_with fail
  have hp1 := HP1.out ys A9 c9 _ HY.out (HKY.out _ HW4.out) (HT.out.below B4.out) (HS.out.below B4.out)
  rw [HK.out] at hp1
  refine hp1.mono ?_
  rintro e w5 ⟨rfl, hb5⟩
  have cl5 := CL4.out.below hb5
  have CL5 := Lib.hid cl5
  have B5 := Lib.hid (B4.out.trans (hb5.mono B4.out.size)); have HW5 := Lib.hid (HW4.out.trans (hb5.mono HW4.out.size))
  clear hp1 hb5 l0 l1 l2 l3 CL4 B4 HW4 HP1
  have i0 := cl5.head.cell 0; have i1 := cl5.head.cell 1; have i2 := cl5.head.cell 2; have i3 := cl5.head.cell 3; have i4 := cl5.head.cell 4; have i5 := cl5.head.cell 5; have i6 := cl5.head.cell 6
  have m0 := cl5.tail.head.cell 0; have m1 := cl5.tail.head.cell 1; have m2 := cl5.tail.head.cell 2; have m3 := cl5.tail.head.cell 3; have m4 := cl5.tail.head.cell 4; have m5 := cl5.tail.head.cell 5; have m6 := cl5.tail.head.cell 6
  have l0 := cl5.tail.tail.head.cell 0; have l1 := cl5.tail.tail.head.cell 1; have l2 := cl5.tail.tail.head.cell 2; have l3 := cl5.tail.tail.head.cell 3
  simp at i0 i1 i2 i3 i4 i5 i6 m0 m1 m2 m3 m4 m5 m6 l0 l1 l2 l3
  clear cl5 hg5
  go_wp2_with fail
  refine (HP2.out _ (HBKW.out _ B5.out)).mono ?_
  rintro e w6 ⟨rfl, hb6⟩
  have CL6 := Lib.hid ((CL5.out.below hb6).drew)
  have B6 := Lib.hid ((B5.out.trans (hb6.mono B5.out.size)).drew); have HW6 := Lib.hid ((HW5.out.trans (hb6.mono HW5.out.size)).drew)
  clear hb6 i0 i1 i2 i3 i4 i5 i6 m0 m1 m2 m3 m4 m5 m6 l0 l1 l2 l3 CL5 B5 HW5 HP2
  go_wp2_with fail
  refine wp_region_treeN (fun w' => CellsAt [(g5, 29, #[.int .i64 ad, .int .i64 kd, .int .i64 qu, .int .i64 mx, .int .i64 my, .int .i64 pa, .slice A9 k c9]), (w.heap.size, 29, #[.int .i64 ad, .int .i64 kd, .int .i64 qu, .int .i64 mx, .int .i64 my, .int .i64 pa, .slice A n c]), (w.heap.size + 1, 24, #[.int .i64 a1, .bool d1, .int .i64 x1, .int .i64 y1])] w') 31 (.take 0 (.take 1 (.take 2 (.take 3 (.take 4 (.take 5 (.take 6 (.take 7 (.take 8 (.take 9 (.take 11 (.step 10 (.step 12 (.take 13 (.take 14 (.take 15 (.take 16 (.take 18 (.step 17 (.step 19 (.take 20 (.take 21 (.take 22 (.take 23 (.take 24 (.step 25 (.take 26 (.take 27 (.step 28 (.take 29 (.step 30 .done))))))))))))))))))))))))))))))) (by kernel_rfl) (by kernel_rfl) (by simp only [Pln.out, Array.getD_eq_getD_getElem?, List.getElem?_toArray, List.getElem?_cons_zero, List.getElem?_cons_succ, Option.getD_some]; rfl) (by simp only [List.map_cons, List.map_nil]; rfl) (CL6.out) (fun PE hPE => ?_)
  iterate 9
    refine tree_take (v := ?_) rfl (by rfl) ?_ ?_
    rotate_left
    · intro _ hSw; (try dsimp only at hSw); go_simp; (try with_reducible rfl)
    simp only [List.setIfInBounds_toArray, List.set_cons_zero, List.set_cons_succ]
  iterate 2
    refine tree_take (v := ?_) rfl (by rfl) ?_ ?_
    rotate_left
    · intro _ hSw; (try dsimp only at hSw); have i0 := hSw.head.cell 0; have i1 := hSw.head.cell 1; have i2 := hSw.head.cell 2; have i3 := hSw.head.cell 3; have i4 := hSw.head.cell 4; have i5 := hSw.head.cell 5; have i6 := hSw.head.cell 6; have m0 := hSw.tail.head.cell 0; have m1 := hSw.tail.head.cell 1; have m2 := hSw.tail.head.cell 2; have m3 := hSw.tail.head.cell 3; have m4 := hSw.tail.head.cell 4; have m5 := hSw.tail.head.cell 5; have m6 := hSw.tail.head.cell 6; (try dsimp only at i0 i1 i2 i3 i4 i5 i6 m0 m1 m2 m3 m4 m5 m6); go_simp; (try with_reducible rfl)
    simp only [List.setIfInBounds_toArray, List.set_cons_zero, List.set_cons_succ]
  have hk1 := HK1.out ys A9 c9 _ HY.out (HKY.out _ HW6.out)
  rw [HK.out] at hk1
  refine tree_call (f := 19) rfl (by rfl) (by first | (go_simp; done) | (go_simp; rfl)) hk1 ?_
  rintro e w7 ⟨rfl, hb7⟩
  have CL7 := Lib.hid (CL6.out.below hb7)
  have B7 := Lib.hid (B6.out.trans (hb7.mono B6.out.size)); have HW7 := Lib.hid (HW6.out.trans (hb7.mono HW6.out.size))
  clear hk1 hb7
  refine ⟨_, rfl, _, fun _ h => h, CL7.out, ?_⟩
  simp only [List.setIfInBounds_toArray, List.set_cons_zero, List.set_cons_succ]
  refine tree_call (f := 20) rfl (by rfl) (by first | (go_simp; done) | (go_simp; rfl)) (HK2.out _ (HBKW.out _ B7.out)) ?_
  rintro e w8 ⟨rfl, hb8⟩
  have CL8 := Lib.hid (CL7.out.below hb8)
  have B8 := Lib.hid (B7.out.trans (hb8.mono B7.out.size)); have HW8 := Lib.hid (HW7.out.trans (hb8.mono HW7.out.size))
  clear hb8
  refine ⟨_, rfl, _, fun _ h => h, CL8.out, ?_⟩
  simp only [List.setIfInBounds_toArray, List.set_cons_zero, List.set_cons_succ]
  iterate 3
    refine tree_take (v := ?_) rfl (by rfl) ?_ ?_
    rotate_left
    · intro _ hSw; (try dsimp only at hSw); go_simp; (try with_reducible rfl)
    simp only [List.setIfInBounds_toArray, List.set_cons_zero, List.set_cons_succ]
  iterate 2
    refine tree_take (v := ?_) rfl (by rfl) ?_ ?_
    rotate_left
    · intro _ hSw; (try dsimp only at hSw); have i0 := hSw.head.cell 0; have i1 := hSw.head.cell 1; have i2 := hSw.head.cell 2; have i3 := hSw.head.cell 3; have i4 := hSw.head.cell 4; have i5 := hSw.head.cell 5; have i6 := hSw.head.cell 6; have m0 := hSw.tail.head.cell 0; have m1 := hSw.tail.head.cell 1; have m2 := hSw.tail.head.cell 2; have m3 := hSw.tail.head.cell 3; have m4 := hSw.tail.head.cell 4; have m5 := hSw.tail.head.cell 5; have m6 := hSw.tail.head.cell 6; (try dsimp only at i0 i1 i2 i3 i4 i5 i6 m0 m1 m2 m3 m4 m5 m6); go_simp; (try with_reducible rfl)
    simp only [List.setIfInBounds_toArray, List.set_cons_zero, List.set_cons_succ]
  refine tree_call (f := 21) rfl (by rfl) (by first | (go_simp; done) | (go_simp; rfl)) (HF1.out A9 k c9 _) ?_
  rintro e w9 ⟨rfl, hb9⟩
  have CL9 := Lib.hid (CL8.out.below hb9)
  have B9 := Lib.hid (B8.out.trans (hb9.mono B8.out.size)); have HW9 := Lib.hid (HW8.out.trans (hb9.mono HW8.out.size))
  clear hb9
  refine ⟨_, rfl, _, fun _ h => h, CL9.out, ?_⟩
  simp only [List.setIfInBounds_toArray, List.set_cons_zero, List.set_cons_succ]
  refine tree_call (f := 22) rfl (by rfl) (by first | (go_simp; done) | (go_simp; rfl)) (HF2.out _) ?_
  rintro e wa ⟨rfl, hba⟩
  have CLa := Lib.hid (CL9.out.below hba)
  have Ba := Lib.hid (B9.out.trans (hba.mono B9.out.size)); have HWa := Lib.hid (HW9.out.trans (hba.mono HW9.out.size))
  clear hba
  refine ⟨_, rfl, _, fun _ h => h, CLa.out, ?_⟩
  simp only [List.setIfInBounds_toArray, List.set_cons_zero, List.set_cons_succ]
  iterate 3
    refine tree_take (v := ?_) rfl (by rfl) ?_ ?_
    rotate_left
    · intro _ hSw; (try dsimp only at hSw); go_simp; (try with_reducible rfl)
    simp only [List.setIfInBounds_toArray, List.set_cons_zero, List.set_cons_succ]
  iterate 2
    refine tree_take (v := ?_) rfl (by rfl) ?_ ?_
    rotate_left
    · intro _ hSw; (try dsimp only at hSw); have i0 := hSw.head.cell 0; have i1 := hSw.head.cell 1; have i2 := hSw.head.cell 2; have i3 := hSw.head.cell 3; have i4 := hSw.head.cell 4; have i5 := hSw.head.cell 5; have i6 := hSw.head.cell 6; have m0 := hSw.tail.head.cell 0; have m1 := hSw.tail.head.cell 1; have m2 := hSw.tail.head.cell 2; have m3 := hSw.tail.head.cell 3; have m4 := hSw.tail.head.cell 4; have m5 := hSw.tail.head.cell 5; have m6 := hSw.tail.head.cell 6; (try dsimp only at i0 i1 i2 i3 i4 i5 i6 m0 m1 m2 m3 m4 m5 m6); go_simp; (try with_reducible rfl)
    simp only [List.setIfInBounds_toArray, List.set_cons_zero, List.set_cons_succ]
  have hsm := HSM.out ys A9 c9 _ HY.out (HKY.out _ HWa.out) (HBKW.out _ Ba.out)
  rw [HK.out] at hsm
  refine tree_call (f := 13) rfl (by rfl) (by first | (go_simp; done) | (go_simp; rfl)) hsm ?_
  rintro e wb ⟨rfl, hbb⟩
  have CLb := Lib.hid (CLa.out.below hbb)
  have Bb := Lib.hid (Ba.out.trans (hbb.mono Ba.out.size))
  clear hbb hsm
  refine ⟨_, rfl, _, fun _ h => h, CLb.out, ?_⟩
  simp only [List.setIfInBounds_toArray, List.set_cons_zero, List.set_cons_succ]
  iterate 2
    refine tree_take (v := ?_) rfl (by rfl) ?_ ?_
    rotate_left
    · intro _ hSw; (try dsimp only at hSw); go_simp; (try with_reducible rfl)
    simp only [List.setIfInBounds_toArray, List.set_cons_zero, List.set_cons_succ]
  refine tree_call (f := 9) rfl (by rfl) (by first | (go_simp; done) | (go_simp; rfl)) (law19_awake _ (HT.out.below Bb.out) (HS.out.below Bb.out)) ?_
  rintro e wc ⟨rfl, hbc⟩
  have CLc := Lib.hid (CLb.out.below hbc)
  have Bc := Lib.hid (Bb.out.trans (hbc.mono Bb.out.size))
  clear hbc
  refine ⟨_, rfl, _, fun _ h => h, CLc.out, ?_⟩
  simp only [List.setIfInBounds_toArray, List.set_cons_zero, List.set_cons_succ]
  refine tree_take (v := ?_) rfl (by rfl) ?_ ?_
  rotate_left
  · intro _ hSw; (try dsimp only at hSw); go_simp; (try with_reducible rfl)
  simp only [List.setIfInBounds_toArray, List.set_cons_zero, List.set_cons_succ]
  refine tree_value (v := ?_) (w' := ?_) rfl (by rfl) ?_ ?_ ?_
  rotate_left 2
  · go_simp; (try (constructor <;> with_reducible rfl))
  · exact CLc.out
  simp only [List.setIfInBounds_toArray, List.set_cons_zero, List.set_cons_succ]
  refine hPE _ _ ?_
  clear hPE PE
  simp only [List.drop_succ_cons, List.drop_zero, List.drop_nil]
  go_wp2_with fail
  refine ⟨rfl, ?_⟩
  go_wp2_with fail
  go_ret
  exact ⟨by simp, Bc.out⟩
end Go.Proofs.YtcojnigkgbmbmaaGreatDoor
