/- Ref19c, Ref19p -/
import Derived.Test.YtcojnigkgbmbmaaGreatDoorT29
import Derived.Test.YtcojnigkgbmbmaaGreatDoorT08
import Derived.Test.YtcojnigkgbmbmaaGreatDoorT33
import Derived.Deep.DeepCutAuto
namespace Go.Proofs.YtcojnigkgbmbmaaGreatDoor
open Go Go.RowKit
attribute [local go_sem] Oper.semAt_some
theorem okM_ref (m : MacM) : okM m = (inK m.kd && (!decide (m.ad < 1) && (!decide (33 < m.ad) && (withP (pQ m.kd) m.qu 1 31 && (withP (pV m.kd) m.x (-15) 15 && (withP (pV m.kd) m.y (-15) 15 && ((if pI m.kd then m.pa == 63 else withP (pC m.kd) m.pa 1 63) && (m.bl.length == cntP m.pa && m.bl.all fun x => bchkP x (pI m.kd) == 0)))))))) := by
  obtain ⟨ad, kd, qu, x, y, pa, bl⟩ := m
  unfold okM withP partB
  dsimp only
  generalize (bl.all fun x => bchkP x (pI kd) == 0) = z
  generalize (bl.length == cntP pa) = zl
  generalize pI kd = bI
  generalize pQ kd = bQ
  generalize pV kd = bV
  generalize pC kd = bC
  generalize inK kd = k
  rw [Bool.eq_iff_iff]
  cases bI <;> cases bQ <;> cases bV <;> cases bC <;> cases zl <;> cases z <;> cases k <;> simp <;> omega
set_option maxRecDepth 100000 in
set_option maxHeartbeats 16000000 in
theorem ref19_Check (m : MacM) (xs : List BkE) (A : Option Addr) (c : Nat) (w : World) (hm : m.bl = xs.map (·.1)) (hA : BksAt w A xs) : Calls Tryz.prog 20 #[.agg #[.int .i64 m.ad, .int .i64 m.kd, .int .i64 m.qu, .int .i64 m.x, .int .i64 m.y, .int .i64 m.pa, .slice A xs.length c]] w fun e w' => e = .returned (.int .i64 (if okM m then 0 else 2)) ∧ Below w.heap.size w w' := by
  obtain ⟨R, hR⟩ : ∃ R : Int, (if okM m then 0 else 2) = R := ⟨_, rfl⟩
  rw [hR]
  rw [okM_ref] at hR
  have hall : (m.bl.all fun x => bchkP x (pI m.kd) == 0) = xs.all fun p => bchkP p.1 (pI m.kd) == 0 := by rw [hm, List.all_map]; rfl
  rw [hall, show m.bl.length = xs.length by rw [hm, List.length_map]] at hR
  obtain ⟨ad, kd, qu, mx, my, pa, bl⟩ := m
  dsimp only at hR ⊢
  have CO := Lib.hid (fun W => ref05_Of kd W)
  have W1 := Lib.hid (fun W => ref19_within (pQ kd) qu 1 31 W)
  have W2 := Lib.hid (fun W => ref19_within (pV kd) mx (-15) 15 W)
  have W3 := Lib.hid (fun W => ref19_within (pV kd) my (-15) 15 W)
  have W4 := Lib.hid (fun W => ref19_within (pC kd) pa 1 63 W)
  have CC := Lib.hid (fun W => ref07_Count pa W)
  have HA := Lib.hid hA
  have HB0 := Lib.hid ((Below.refl _ w).alloc (Nat.le_refl _) (.cells #[.int .i64 ad, .int .i64 kd, .int .i64 qu, .int .i64 mx, .int .i64 my, .int .i64 pa, .slice A xs.length c] 29))
  have HC0 := Lib.hid (CellsAt.cons (Blk.new w 29 #[.int .i64 ad, .int .i64 kd, .int .i64 qu, .int .i64 mx, .int .i64 my, .int .i64 pa, .slice A xs.length c]) (cellsAt_nil _))
  unfold OfPost prtL at CO
  obtain ⟨bI, hbI⟩ : ∃ b, pI kd = b := ⟨_, rfl⟩
  obtain ⟨bQ, hbQ⟩ : ∃ b, pQ kd = b := ⟨_, rfl⟩
  obtain ⟨bV, hbV⟩ : ∃ b, pV kd = b := ⟨_, rfl⟩
  obtain ⟨bC, hbC⟩ : ∃ b, pC kd = b := ⟨_, rfl⟩
  obtain ⟨bF, hbF⟩ : ∃ b, pF kd = b := ⟨_, rfl⟩
  rw [hbI] at hR CO
  rw [hbQ] at hR CO W1
  rw [hbV] at hR CO W2 W3
  rw [hbC] at hR CO W4
  rw [hbF] at CO
  obtain ⟨q, hq⟩ : ∃ q, withP bQ qu 1 31 = q := ⟨_, rfl⟩
  obtain ⟨vx, hvx⟩ : ∃ q, withP bV mx (-15) 15 = q := ⟨_, rfl⟩
  obtain ⟨vy, hvy⟩ : ∃ q, withP bV my (-15) 15 = q := ⟨_, rfl⟩
  obtain ⟨pc, hpc⟩ : ∃ q, withP bC pa 1 63 = q := ⟨_, rfl⟩
  rw [hq] at hR W1
  rw [hvx] at hR W2
  rw [hvy] at hR W3
  rw [hpc] at hR W4
  obtain ⟨ct, hct⟩ : ∃ q, cntP pa = q := ⟨_, rfl⟩
  rw [hct] at hR CC
  have hct6 : ct ≤ 6 := by rw [← hct, ← hasC_cnt]; exact hasC_le pa 6
  obtain ⟨n, hn⟩ : ∃ n, xs.length = n := ⟨_, rfl⟩
  rw [hn] at hR HB0 HC0 ⊢
  have HNX := Lib.hid hn
  have hn64 : n ≤ 64 := by rw [← hn]; exact hA.len
  clear hbI hbQ hbV hbC hbF hq hvx hvy hpc hct hA hall hn
  obtain ⟨k, hk⟩ : ∃ k, inK kd = k := ⟨_, rfl⟩
  rw [hk] at hR CO
  clear hk
  cases k with
  | false =>
    simp only [Bool.false_and, Bool.true_and, Bool.not_true, Bool.not_false, Bool.and_false, if_false, if_true, Bool.false_eq_true] at hR
    rw [if_neg (by decide)] at CO
    subst hR
    go_enter Tryz.func20, Tryz.ntmps20
    go_wp2_with (first | (go_at_call 38; refine (CO.out _).mono ?_; rintro e w1 ⟨rfl, hb1⟩; have HB1 := Lib.hid ((HB0.out.trans (hb1.mono HB0.out.size)).alloc (HB0.out.trans (hb1.mono HB0.out.size)).size (.cells #[.bool bI, .bool bQ, .bool bV, .bool bF, .bool bC] 59)); have HC1 := Lib.hid (CellsAt.cons (Blk.new w1 59 #[.bool bI, .bool bQ, .bool bV, .bool bF, .bool bC]) ((HC0.out.below hb1).alloc (.cells #[.bool bI, .bool bQ, .bool bV, .bool bF, .bool bC] 59))); have xm := HC1.out.tail.head; have m0 := xm.cell 0; have m1 := xm.cell 1; have m2 := xm.cell 2; have m3 := xm.cell 3; have m4 := xm.cell 4; have m5 := xm.cell 5; have m6 := xm.cell 6; (try dsimp only at m0 m1 m2 m3 m4 m5 m6); clear hb1 xm CO))
    go_ret
    exact ⟨rfl, HB1.out⟩
  | true =>
  rw [if_pos rfl] at CO
  cases a1 : decide (ad < 1) with
  | true =>
    rw [a1] at hR
    simp only [Bool.false_and, Bool.true_and, Bool.not_true, Bool.not_false, Bool.and_false, if_false, if_true, Bool.false_eq_true] at hR
    subst hR
    go_enter Tryz.func20, Tryz.ntmps20
    go_wp2_with (first | (go_at_call 38; refine (CO.out _).mono ?_; rintro e w1 ⟨rfl, hb1⟩; have HB1 := Lib.hid ((HB0.out.trans (hb1.mono HB0.out.size)).alloc (HB0.out.trans (hb1.mono HB0.out.size)).size (.cells #[.bool bI, .bool bQ, .bool bV, .bool bF, .bool bC] 59)); have HC1 := Lib.hid (CellsAt.cons (Blk.new w1 59 #[.bool bI, .bool bQ, .bool bV, .bool bF, .bool bC]) ((HC0.out.below hb1).alloc (.cells #[.bool bI, .bool bQ, .bool bV, .bool bF, .bool bC] 59))); have xm := HC1.out.tail.head; have m0 := xm.cell 0; have m1 := xm.cell 1; have m2 := xm.cell 2; have m3 := xm.cell 3; have m4 := xm.cell 4; have m5 := xm.cell 5; have m6 := xm.cell 6; (try dsimp only at m0 m1 m2 m3 m4 m5 m6); clear hb1 xm CO))
    go_ret
    exact ⟨rfl, HB1.out⟩
  | false =>
  rw [a1] at hR
  cases a2 : decide (33 < ad) with
  | true =>
    rw [a2] at hR
    simp only [Bool.false_and, Bool.true_and, Bool.not_true, Bool.not_false, Bool.and_false, if_false, if_true, Bool.false_eq_true] at hR
    subst hR
    go_enter Tryz.func20, Tryz.ntmps20
    go_wp2_with (first | (go_at_call 38; refine (CO.out _).mono ?_; rintro e w1 ⟨rfl, hb1⟩; have HB1 := Lib.hid ((HB0.out.trans (hb1.mono HB0.out.size)).alloc (HB0.out.trans (hb1.mono HB0.out.size)).size (.cells #[.bool bI, .bool bQ, .bool bV, .bool bF, .bool bC] 59)); have HC1 := Lib.hid (CellsAt.cons (Blk.new w1 59 #[.bool bI, .bool bQ, .bool bV, .bool bF, .bool bC]) ((HC0.out.below hb1).alloc (.cells #[.bool bI, .bool bQ, .bool bV, .bool bF, .bool bC] 59))); have xm := HC1.out.tail.head; have m0 := xm.cell 0; have m1 := xm.cell 1; have m2 := xm.cell 2; have m3 := xm.cell 3; have m4 := xm.cell 4; have m5 := xm.cell 5; have m6 := xm.cell 6; (try dsimp only at m0 m1 m2 m3 m4 m5 m6); clear hb1 xm CO))
    go_ret
    exact ⟨rfl, HB1.out⟩
  | false =>
  rw [a2] at hR
  cases q with
  | false =>
    simp only [Bool.false_and, Bool.true_and, Bool.not_true, Bool.not_false, Bool.and_false, if_false, if_true, Bool.false_eq_true] at hR
    subst hR
    go_enter Tryz.func20, Tryz.ntmps20
    go_wp2_with (first | (go_at_call 38; refine (CO.out _).mono ?_; rintro e w1 ⟨rfl, hb1⟩; have HB1 := Lib.hid ((HB0.out.trans (hb1.mono HB0.out.size)).alloc (HB0.out.trans (hb1.mono HB0.out.size)).size (.cells #[.bool bI, .bool bQ, .bool bV, .bool bF, .bool bC] 59)); have HC1 := Lib.hid (CellsAt.cons (Blk.new w1 59 #[.bool bI, .bool bQ, .bool bV, .bool bF, .bool bC]) ((HC0.out.below hb1).alloc (.cells #[.bool bI, .bool bQ, .bool bV, .bool bF, .bool bC] 59))); have xm := HC1.out.tail.head; have m0 := xm.cell 0; have m1 := xm.cell 1; have m2 := xm.cell 2; have m3 := xm.cell 3; have m4 := xm.cell 4; have m5 := xm.cell 5; have m6 := xm.cell 6; (try dsimp only at m0 m1 m2 m3 m4 m5 m6); clear hb1 xm CO) | (go_at_call 64; refine (W1.out _).mono ?_; rintro e w' ⟨rfl, rfl⟩; clear W1))
    go_ret
    exact ⟨rfl, HB1.out⟩
  | true =>
  cases vx with
  | false =>
    simp only [Bool.false_and, Bool.true_and, Bool.not_true, Bool.not_false, Bool.and_false, if_false, if_true, Bool.false_eq_true] at hR
    subst hR
    go_enter Tryz.func20, Tryz.ntmps20
    go_wp2_with (first | (go_at_call 38; refine (CO.out _).mono ?_; rintro e w1 ⟨rfl, hb1⟩; have HB1 := Lib.hid ((HB0.out.trans (hb1.mono HB0.out.size)).alloc (HB0.out.trans (hb1.mono HB0.out.size)).size (.cells #[.bool bI, .bool bQ, .bool bV, .bool bF, .bool bC] 59)); have HC1 := Lib.hid (CellsAt.cons (Blk.new w1 59 #[.bool bI, .bool bQ, .bool bV, .bool bF, .bool bC]) ((HC0.out.below hb1).alloc (.cells #[.bool bI, .bool bQ, .bool bV, .bool bF, .bool bC] 59))); have xm := HC1.out.tail.head; have m0 := xm.cell 0; have m1 := xm.cell 1; have m2 := xm.cell 2; have m3 := xm.cell 3; have m4 := xm.cell 4; have m5 := xm.cell 5; have m6 := xm.cell 6; (try dsimp only at m0 m1 m2 m3 m4 m5 m6); clear hb1 xm CO) | (go_at_call 64; refine (W1.out _).mono ?_; rintro e w' ⟨rfl, rfl⟩; clear W1) | (go_at_call 64; refine (W2.out _).mono ?_; rintro e w' ⟨rfl, rfl⟩; clear W2))
    go_ret
    exact ⟨rfl, HB1.out⟩
  | true =>
  cases vy with
  | false =>
    simp only [Bool.false_and, Bool.true_and, Bool.not_true, Bool.not_false, Bool.and_false, if_false, if_true, Bool.false_eq_true] at hR
    subst hR
    go_enter Tryz.func20, Tryz.ntmps20
    go_wp2_with (first | (go_at_call 38; refine (CO.out _).mono ?_; rintro e w1 ⟨rfl, hb1⟩; have HB1 := Lib.hid ((HB0.out.trans (hb1.mono HB0.out.size)).alloc (HB0.out.trans (hb1.mono HB0.out.size)).size (.cells #[.bool bI, .bool bQ, .bool bV, .bool bF, .bool bC] 59)); have HC1 := Lib.hid (CellsAt.cons (Blk.new w1 59 #[.bool bI, .bool bQ, .bool bV, .bool bF, .bool bC]) ((HC0.out.below hb1).alloc (.cells #[.bool bI, .bool bQ, .bool bV, .bool bF, .bool bC] 59))); have xm := HC1.out.tail.head; have m0 := xm.cell 0; have m1 := xm.cell 1; have m2 := xm.cell 2; have m3 := xm.cell 3; have m4 := xm.cell 4; have m5 := xm.cell 5; have m6 := xm.cell 6; (try dsimp only at m0 m1 m2 m3 m4 m5 m6); clear hb1 xm CO) | (go_at_call 64; refine (W1.out _).mono ?_; rintro e w' ⟨rfl, rfl⟩; clear W1) | (go_at_call 64; refine (W2.out _).mono ?_; rintro e w' ⟨rfl, rfl⟩; clear W2) | (go_at_call 64; refine (W3.out _).mono ?_; rintro e w' ⟨rfl, rfl⟩; clear W3))
    go_ret
    exact ⟨rfl, HB1.out⟩
  | true =>
  simp only [Bool.false_and, Bool.true_and, Bool.not_true, Bool.not_false, Bool.and_false, if_false, if_true, Bool.false_eq_true] at hR
  have HR := Lib.hid hR
  clear hR
  cases bI with
  | true =>
    simp only [if_true] at HR
    cases pt : (pa == 63) with
    | false =>
      have hR := HR.out
      rw [pt] at hR
      simp only [Bool.false_and, Bool.true_and, Bool.not_true, Bool.not_false, Bool.and_false, if_false, if_true, Bool.false_eq_true] at hR
      subst hR
      go_enter Tryz.func20, Tryz.ntmps20
      go_wp2_with (first | (go_at_call 38; refine (CO.out _).mono ?_; rintro e w1 ⟨rfl, hb1⟩; have HB1 := Lib.hid ((HB0.out.trans (hb1.mono HB0.out.size)).alloc (HB0.out.trans (hb1.mono HB0.out.size)).size (.cells #[.bool true, .bool bQ, .bool bV, .bool bF, .bool bC] 59)); have HC1 := Lib.hid (CellsAt.cons (Blk.new w1 59 #[.bool true, .bool bQ, .bool bV, .bool bF, .bool bC]) ((HC0.out.below hb1).alloc (.cells #[.bool true, .bool bQ, .bool bV, .bool bF, .bool bC] 59))); have xm := HC1.out.tail.head; have m0 := xm.cell 0; have m1 := xm.cell 1; have m2 := xm.cell 2; have m3 := xm.cell 3; have m4 := xm.cell 4; have m5 := xm.cell 5; have m6 := xm.cell 6; (try dsimp only at m0 m1 m2 m3 m4 m5 m6); clear hb1 xm CO) | (go_at_call 64; refine (W1.out _).mono ?_; rintro e w' ⟨rfl, rfl⟩; clear W1) | (go_at_call 64; refine (W2.out _).mono ?_; rintro e w' ⟨rfl, rfl⟩; clear W2) | (go_at_call 64; refine (W3.out _).mono ?_; rintro e w' ⟨rfl, rfl⟩; clear W3))
      refine (wpIn_wide (n := 5)).1 ?_
      refine wpIn_region_treeI (fun w' => w'.cell? ⟨w.heap.size, 5, none⟩ = some (.int .i64 pa) ∧ w'.cell? ⟨w.heap.size, 6, none⟩ = some (.slice A n c)) 11 (.take 0 (.take 1 (.take 2 (.take 3 (.take 4 (.take 5 (.take 6 (.take 7 (.step 8 (.take 9 (.take 10 .done))))))))))) rfl (by kernel_rfl) (by kernel_rfl) (fun _ _ d _ _ h => by cases d <;> exact h) (by simp only [Pln.out, Array.getD_eq_getD_getElem?, List.getElem?_toArray, List.getElem?_cons_zero, List.getElem?_cons_succ, Option.getD_some]; rfl) (by simp only [List.map_cons, List.map_nil]; rfl) (⟨m5, m6⟩) (fun PE hPE => ?_)
      iterate 3
        refine treeI_take (v := ?_) rfl (by rfl) ?_ (fun _ => rfl) ?_
        rotate_left
        · intro _ hSw; (try dsimp only at hSw); go_simp; (try with_reducible rfl)
        simp only [List.setIfInBounds_toArray, List.set_cons_zero, List.set_cons_succ]
      iterate 5
        refine treeI_pass rfl (by rfl) (fun _ => rfl) ?_
        simp only [List.setIfInBounds_toArray, List.set_cons_zero, List.set_cons_succ]
      refine treeI_skip (by rfl) rfl ⟨m5, m6⟩ ?_
      simp only [List.setIfInBounds_toArray, List.set_cons_zero, List.set_cons_succ]
      refine treeI_pass rfl (by rfl) (fun _ => rfl) ?_
      simp only [List.setIfInBounds_toArray, List.set_cons_zero, List.set_cons_succ]
      refine treeI_take (v := ?_) rfl (by rfl) ?_ (fun _ => rfl) ?_
      rotate_left
      · intro _ hSw; (try dsimp only at hSw); go_simp; (try with_reducible rfl)
      simp only [List.setIfInBounds_toArray, List.set_cons_zero, List.set_cons_succ]
      refine hPE _ _ ?_
      clear hPE PE
      simp only [List.drop_succ_cons, List.drop_zero, List.drop_nil]
      gi_wp2_with (refine wpListIn_skip (by rfl) (by rfl) ?_)
      go_wp2_with fail
      go_ret
      exact ⟨rfl, HB1.out.drew⟩
    | true =>
      have hR := HR.out
      rw [pt] at hR
      simp only [Bool.false_and, Bool.true_and, Bool.not_true, Bool.not_false, Bool.and_false, if_false, if_true, Bool.false_eq_true] at hR
      have HR2 := Lib.hid hR
      clear hR HR
      go_enter Tryz.func20, Tryz.ntmps20
      go_wp2_with (first | (go_at_call 38; refine (CO.out _).mono ?_; rintro e w1 ⟨rfl, hb1⟩; have HB1 := Lib.hid ((HB0.out.trans (hb1.mono HB0.out.size)).alloc (HB0.out.trans (hb1.mono HB0.out.size)).size (.cells #[.bool true, .bool bQ, .bool bV, .bool bF, .bool bC] 59)); have HC1 := Lib.hid (CellsAt.cons (Blk.new w1 59 #[.bool true, .bool bQ, .bool bV, .bool bF, .bool bC]) ((HC0.out.below hb1).alloc (.cells #[.bool true, .bool bQ, .bool bV, .bool bF, .bool bC] 59))); have xm := HC1.out.tail.head; have m0 := xm.cell 0; have m1 := xm.cell 1; have m2 := xm.cell 2; have m3 := xm.cell 3; have m4 := xm.cell 4; have m5 := xm.cell 5; have m6 := xm.cell 6; (try dsimp only at m0 m1 m2 m3 m4 m5 m6); clear hb1 xm CO) | (go_at_call 64; refine (W1.out _).mono ?_; rintro e w' ⟨rfl, rfl⟩; clear W1) | (go_at_call 64; refine (W2.out _).mono ?_; rintro e w' ⟨rfl, rfl⟩; clear W2) | (go_at_call 64; refine (W3.out _).mono ?_; rintro e w' ⟨rfl, rfl⟩; clear W3))
      have hd := HC1.out.drew
      have HD := Lib.hid hd
      have HBD := Lib.hid HB1.out.drew
      have x5 := hd.tail.head.cell 5; have x6 := hd.tail.head.cell 6
      (try dsimp only at x5 x6)
      clear hd m0 m1 m2 m3 m4 m5 m6
      refine wp_region_treeN (fun w' => w'.cell? ⟨w.heap.size, 5, none⟩ = some (.int .i64 pa) ∧ w'.cell? ⟨w.heap.size, 6, none⟩ = some (.slice A n c)) 11 (.take 0 (.take 1 (.take 2 (.take 3 (.take 4 (.take 5 (.take 6 (.take 7 (.step 8 (.take 9 (.take 10 .done))))))))))) (by kernel_rfl) (by kernel_rfl) (by simp only [Pln.out, Array.getD_eq_getD_getElem?, List.getElem?_toArray, List.getElem?_cons_zero, List.getElem?_cons_succ, Option.getD_some]; rfl) (by simp only [List.map_cons, List.map_nil]; rfl) (⟨x5, x6⟩) (fun PE hPE => ?_)
      iterate 8
        refine tree_take (v := ?_) rfl (by rfl) ?_ ?_
        rotate_left
        · intro _ hSw; (try dsimp only at hSw); obtain ⟨s0, s1⟩ := hSw; go_simp; (try with_reducible rfl)
        simp only [List.setIfInBounds_toArray, List.set_cons_zero, List.set_cons_succ]
      refine tree_call (f := 43) rfl (by rfl) (by first | (go_simp; done) | (go_simp; rfl)) (CC.out _) ?_
      rintro e w' ⟨rfl, rfl⟩
      refine ⟨_, rfl, _, fun _ h => h, ⟨x5, x6⟩, ?_⟩
      simp only [List.setIfInBounds_toArray, List.set_cons_zero, List.set_cons_succ]
      iterate 2
        refine tree_take (v := ?_) rfl (by rfl) ?_ ?_
        rotate_left
        · intro _ hSw; (try dsimp only at hSw); go_simp; (try with_reducible rfl)
        simp only [List.setIfInBounds_toArray, List.set_cons_zero, List.set_cons_succ]
      refine hPE _ _ ?_
      clear hPE PE
      simp only [List.drop_succ_cons, List.drop_zero, List.drop_nil]
      cases nc : (n == ct) with
      | false =>
        have hR := HR2.out
        rw [nc] at hR
        simp only [Bool.false_and, Bool.true_and, Bool.not_true, Bool.not_false, Bool.and_false, if_false, if_true, Bool.false_eq_true] at hR
        subst hR
        have hnc : ((n : Int) != (ct : Int)) = true := by simp at nc ⊢; omega
        clear nc
        go_wp2_with fail
        refine ⟨rfl, ?_⟩
        go_wp2_with fail
        go_ret
        exact ⟨rfl, HBD.out⟩
      | true =>
        have hR := HR2.out
        rw [nc] at hR
        simp only [Bool.false_and, Bool.true_and, Bool.not_true, Bool.not_false, Bool.and_false, if_false, if_true, Bool.false_eq_true] at hR
        have hnc : ((n : Int) != (ct : Int)) = false := by simp at nc ⊢; omega
        rw [hnc]
        have HR3 : Hid ((if ((xs.drop 0).all fun p => bchkP p.1 true == 0) = true then (0 : Int) else 2) = R) := Lib.hid (by rw [List.drop_zero]; exact hR)
        clear nc hR x5 x6 HR2
        go_wp2_with fail
        refine ⟨rfl, ?_⟩
        generalize w1.alloc (.cells #[.bool true, .bool bQ, .bool bV, .bool bF, .bool bC] 59) = w5 at HD HBD ⊢
        generalize w1.heap.size = g3 at HD ⊢
        go_wp2_with fail
        go_loopg [6] n (fun g t => fun wr => ∃ (j : Nat), j + g = n ∧ t = .int .i64 (j : Int) ∧ Hid ((if ((xs.drop j).all fun p => bchkP p.1 true == 0) = true then (0 : Int) else 2) = R) ∧ Hid (Below w5.drew.heap.size w5.drew wr))
        case atStart => exact ⟨0, by omega, rfl, HR3, Lib.hid (Below.refl _ _)⟩
        case round =>
          obtain ⟨j, hj, rfl, HF, HW⟩ := hrel
          have xx := HD.out.below HW.out
          have m6 := xx.tail.head.cell 6; have p0 := xx.head.cell 0
          (try dsimp only at m6 p0)
          clear xx
          cases gk with
          | zero =>
            obtain rfl : j = n := by omega
            have hR := HF.out
            rw [List.drop_eq_nil_of_le (by have := HNX.out; omega), List.all_nil, if_pos rfl] at hR
            subst hR
            have HBW := Lib.hid (HBD.out.trans (HW.out.mono HBD.out.size))
            clear hj
            go_wp2_with fail
            go_ret
            exact ⟨rfl, HBW.out⟩
          | succ g =>
            have hlt : ((j : Int) < (n : Int)) := by omega
            have hjl : j < xs.length := by have := HNX.out; omega
            have hbk := HBD.out.trans (HW.out.mono HBD.out.size)
            obtain ⟨ad9, rfl, _, c0, c1⟩ := sl_bk (HA.out.row.below hbk) j hjl
            have hbl := (HA.out.bl xs[j] (List.getElem_mem hjl)).below hbk
            have hbn := HA.out.lens xs[j] (List.getElem_mem hjl)
            have hR := HF.out
            rw [List.drop_eq_getElem_cons hjl, List.all_cons] at hR
            obtain ⟨⟨⟨dc, L⟩, B9, c9⟩, hx⟩ : ∃ x, xs[j] = x := ⟨_, rfl⟩
            rw [hx] at c0 c1 hbl hbn hR
            dsimp only at c0 c1 hbl hbn hR
            obtain ⟨ln, hln⟩ : ∃ ln, L.length = ln := ⟨_, rfl⟩
            rw [hln] at c1 hbn
            have CK := Lib.hid (fun W hW => ref12_Check dc L B9 ln c9 true W hW hln (by omega))
            have HBL := Lib.hid (hbl.below (HW.out.drew.mono (Nat.le_refl _) |> fun _ => (Below.refl wr.heap.size wr).drew))
            obtain ⟨er, her⟩ : ∃ er, bchkP ⟨dc, L⟩ true = er := ⟨_, rfl⟩
            rw [her] at CK hR
            have HWD := Lib.hid HW.out.drew
            have HJ := Lib.hid hj
            have hS : (wr.cell? ⟨w.heap.size, 6, none⟩ = some (.slice (some ad9) n c) ∧ wr.cell? ⟨g3, 0, none⟩ = some (.bool true) ∧ wr.cell? (ad9.add (j * 2)) = some (.int .i64 dc) ∧ wr.cell? ⟨(ad9.add (j * 2)).block, (ad9.add (j * 2)).off + 1, none⟩ = some (.slice B9 ln c9)) := ⟨m6, p0, c0, c1⟩
            have HSS := Lib.hid hS
            clear hx hln hbl hbn her hS hbk hj c0 c1
            cases e0 : (er != 0) with
            | true =>
              have e1 : (er == 0) = false := by simpa using e0
              rw [e1, Bool.false_and, if_neg Bool.false_ne_true] at hR
              subst hR
              have HBW := Lib.hid (HBD.out.trans (HWD.out.mono HBD.out.size))
              clear e1
              go_wp2_with fail
              refine wp_region_plan2 (fun w' => w'.cell? ⟨w.heap.size, 6, none⟩ = some (.slice (some ad9) n c) ∧ w'.cell? ⟨g3, 0, none⟩ = some (.bool true) ∧ w'.cell? (ad9.add (j * 2)) = some (.int .i64 dc) ∧ w'.cell? ⟨(ad9.add (j * 2)).block, (ad9.add (j * 2)).off + 1, none⟩ = some (.slice B9 ln c9)) 7 [(0, true), (1, true), (2, true), (3, true), (4, true), (5, true), (6, true)] (by kernel_rfl) (by kernel_rfl) (fun _ _ d _ _ h => by cases d <;> exact h) (by decide) (by simp only [List.map_cons, List.map_nil, Array.getD_eq_getD_getElem?, List.getElem?_toArray, List.getElem?_cons_zero, List.getElem?_cons_succ, Option.getD_some]; rfl) (by simp only [List.map_cons, List.map_nil]; rfl) (HSS.out) (fun PE hPE => ?_)
              iterate 7
                refine plan_take (v := ?_) rfl (by rfl) ?_ ?_
                rotate_left
                · intro _ hSw; (try dsimp only at hSw); obtain ⟨u0, u1, u2, u3⟩ := hSw; go_simp; (try with_reducible rfl)
                simp only [List.setIfInBounds_toArray, List.set_cons_zero, List.set_cons_succ]
              (refine hPE _ _ ?_; simp only [List.drop_succ_cons, List.drop_zero]; clear hPE PE)
              go_wp2_with (go_at_call 65; refine (CK.out _ HBL.out).mono ?_; rintro e w8 ⟨rfl, hb8⟩; have HB8 := Lib.hid (HBW.out.trans (hb8.mono HBW.out.size)); clear hb8)
              go_ret
              exact ⟨rfl, HB8.out⟩
            | false =>
              have e1 : (er == 0) = true := by simpa using e0
              rw [e1, Bool.true_and] at hR
              have HN := Lib.hid hR
              clear e1 hR
              go_wp2_with fail
              refine wp_region_plan2 (fun w' => w'.cell? ⟨w.heap.size, 6, none⟩ = some (.slice (some ad9) n c) ∧ w'.cell? ⟨g3, 0, none⟩ = some (.bool true) ∧ w'.cell? (ad9.add (j * 2)) = some (.int .i64 dc) ∧ w'.cell? ⟨(ad9.add (j * 2)).block, (ad9.add (j * 2)).off + 1, none⟩ = some (.slice B9 ln c9)) 7 [(0, true), (1, true), (2, true), (3, true), (4, true), (5, true), (6, true)] (by kernel_rfl) (by kernel_rfl) (fun _ _ d _ _ h => by cases d <;> exact h) (by decide) (by simp only [List.map_cons, List.map_nil, Array.getD_eq_getD_getElem?, List.getElem?_toArray, List.getElem?_cons_zero, List.getElem?_cons_succ, Option.getD_some]; rfl) (by simp only [List.map_cons, List.map_nil]; rfl) (HSS.out) (fun PE hPE => ?_)
              iterate 7
                refine plan_take (v := ?_) rfl (by rfl) ?_ ?_
                rotate_left
                · intro _ hSw; (try dsimp only at hSw); obtain ⟨u0, u1, u2, u3⟩ := hSw; go_simp; (try with_reducible rfl)
                simp only [List.setIfInBounds_toArray, List.set_cons_zero, List.set_cons_succ]
              (refine hPE _ _ ?_; simp only [List.drop_succ_cons, List.drop_zero]; clear hPE PE)
              go_wp2_with (go_at_call 65; refine (CK.out _ HBL.out).mono ?_; rintro e w8 ⟨rfl, hb8⟩; have HB8 := Lib.hid (HWD.out.trans (hb8.mono HWD.out.size)); clear hb8)
              go_roundg g
              case measure => omega
              case rel => exact ⟨j + 1, by have := HJ.out; omega, rfl, HN, HB8⟩
  | false =>
    simp only [Bool.false_eq_true, if_false] at HR
    cases pt : pc with
    | false =>
      have hR := HR.out
      rw [pt] at hR
      simp only [Bool.false_and, Bool.true_and, Bool.not_true, Bool.not_false, Bool.and_false, if_false, if_true, Bool.false_eq_true] at hR
      subst hR
      go_enter Tryz.func20, Tryz.ntmps20
      go_wp2_with (first | (go_at_call 38; refine (CO.out _).mono ?_; rintro e w1 ⟨rfl, hb1⟩; have HB1 := Lib.hid ((HB0.out.trans (hb1.mono HB0.out.size)).alloc (HB0.out.trans (hb1.mono HB0.out.size)).size (.cells #[.bool false, .bool bQ, .bool bV, .bool bF, .bool bC] 59)); have HC1 := Lib.hid (CellsAt.cons (Blk.new w1 59 #[.bool false, .bool bQ, .bool bV, .bool bF, .bool bC]) ((HC0.out.below hb1).alloc (.cells #[.bool false, .bool bQ, .bool bV, .bool bF, .bool bC] 59))); have xm := HC1.out.tail.head; have m0 := xm.cell 0; have m1 := xm.cell 1; have m2 := xm.cell 2; have m3 := xm.cell 3; have m4 := xm.cell 4; have m5 := xm.cell 5; have m6 := xm.cell 6; (try dsimp only at m0 m1 m2 m3 m4 m5 m6); clear hb1 xm CO) | (go_at_call 64; refine (W1.out _).mono ?_; rintro e w' ⟨rfl, rfl⟩; clear W1) | (go_at_call 64; refine (W2.out _).mono ?_; rintro e w' ⟨rfl, rfl⟩; clear W2) | (go_at_call 64; refine (W3.out _).mono ?_; rintro e w' ⟨rfl, rfl⟩; clear W3) | (go_at_call 64; refine (W4.out _).mono ?_; rintro e w' ⟨rfl, rfl⟩; clear W4))
      refine (wpIn_wide (n := 5)).1 ?_
      refine wpIn_region_treeI (fun w' => w'.cell? ⟨w.heap.size, 5, none⟩ = some (.int .i64 pa) ∧ w'.cell? ⟨w.heap.size, 6, none⟩ = some (.slice A n c)) 11 (.take 0 (.take 1 (.take 2 (.take 3 (.take 4 (.take 5 (.take 6 (.take 7 (.step 8 (.take 9 (.take 10 .done))))))))))) rfl (by kernel_rfl) (by kernel_rfl) (fun _ _ d _ _ h => by cases d <;> exact h) (by simp only [Pln.out, Array.getD_eq_getD_getElem?, List.getElem?_toArray, List.getElem?_cons_zero, List.getElem?_cons_succ, Option.getD_some]; rfl) (by simp only [List.map_cons, List.map_nil]; rfl) (⟨m5, m6⟩) (fun PE hPE => ?_)
      iterate 3
        refine treeI_take (v := ?_) rfl (by rfl) ?_ (fun _ => rfl) ?_
        rotate_left
        · intro _ hSw; (try dsimp only at hSw); go_simp; (try with_reducible rfl)
        simp only [List.setIfInBounds_toArray, List.set_cons_zero, List.set_cons_succ]
      iterate 5
        refine treeI_pass rfl (by rfl) (fun _ => rfl) ?_
        simp only [List.setIfInBounds_toArray, List.set_cons_zero, List.set_cons_succ]
      refine treeI_skip (by rfl) rfl ⟨m5, m6⟩ ?_
      simp only [List.setIfInBounds_toArray, List.set_cons_zero, List.set_cons_succ]
      refine treeI_pass rfl (by rfl) (fun _ => rfl) ?_
      simp only [List.setIfInBounds_toArray, List.set_cons_zero, List.set_cons_succ]
      refine treeI_take (v := ?_) rfl (by rfl) ?_ (fun _ => rfl) ?_
      rotate_left
      · intro _ hSw; (try dsimp only at hSw); go_simp; (try with_reducible rfl)
      simp only [List.setIfInBounds_toArray, List.set_cons_zero, List.set_cons_succ]
      refine hPE _ _ ?_
      clear hPE PE
      simp only [List.drop_succ_cons, List.drop_zero, List.drop_nil]
      gi_wp2_with (refine wpListIn_skip (by rfl) (by rfl) ?_)
      go_wp2_with fail
      go_ret
      exact ⟨rfl, HB1.out.drew⟩
    | true =>
      have hR := HR.out
      rw [pt] at hR
      simp only [Bool.false_and, Bool.true_and, Bool.not_true, Bool.not_false, Bool.and_false, if_false, if_true, Bool.false_eq_true] at hR
      have HR2 := Lib.hid hR
      clear hR HR
      go_enter Tryz.func20, Tryz.ntmps20
      go_wp2_with (first | (go_at_call 38; refine (CO.out _).mono ?_; rintro e w1 ⟨rfl, hb1⟩; have HB1 := Lib.hid ((HB0.out.trans (hb1.mono HB0.out.size)).alloc (HB0.out.trans (hb1.mono HB0.out.size)).size (.cells #[.bool false, .bool bQ, .bool bV, .bool bF, .bool bC] 59)); have HC1 := Lib.hid (CellsAt.cons (Blk.new w1 59 #[.bool false, .bool bQ, .bool bV, .bool bF, .bool bC]) ((HC0.out.below hb1).alloc (.cells #[.bool false, .bool bQ, .bool bV, .bool bF, .bool bC] 59))); have xm := HC1.out.tail.head; have m0 := xm.cell 0; have m1 := xm.cell 1; have m2 := xm.cell 2; have m3 := xm.cell 3; have m4 := xm.cell 4; have m5 := xm.cell 5; have m6 := xm.cell 6; (try dsimp only at m0 m1 m2 m3 m4 m5 m6); clear hb1 xm CO) | (go_at_call 64; refine (W1.out _).mono ?_; rintro e w' ⟨rfl, rfl⟩; clear W1) | (go_at_call 64; refine (W2.out _).mono ?_; rintro e w' ⟨rfl, rfl⟩; clear W2) | (go_at_call 64; refine (W3.out _).mono ?_; rintro e w' ⟨rfl, rfl⟩; clear W3) | (go_at_call 64; refine (W4.out _).mono ?_; rintro e w' ⟨rfl, rfl⟩; clear W4))
      have hd := HC1.out.drew
      have HD := Lib.hid hd
      have HBD := Lib.hid HB1.out.drew
      have x5 := hd.tail.head.cell 5; have x6 := hd.tail.head.cell 6
      (try dsimp only at x5 x6)
      clear hd m0 m1 m2 m3 m4 m5 m6
      refine wp_region_treeN (fun w' => w'.cell? ⟨w.heap.size, 5, none⟩ = some (.int .i64 pa) ∧ w'.cell? ⟨w.heap.size, 6, none⟩ = some (.slice A n c)) 11 (.take 0 (.take 1 (.take 2 (.take 3 (.take 4 (.take 5 (.take 6 (.take 7 (.step 8 (.take 9 (.take 10 .done))))))))))) (by kernel_rfl) (by kernel_rfl) (by simp only [Pln.out, Array.getD_eq_getD_getElem?, List.getElem?_toArray, List.getElem?_cons_zero, List.getElem?_cons_succ, Option.getD_some]; rfl) (by simp only [List.map_cons, List.map_nil]; rfl) (⟨x5, x6⟩) (fun PE hPE => ?_)
      iterate 8
        refine tree_take (v := ?_) rfl (by rfl) ?_ ?_
        rotate_left
        · intro _ hSw; (try dsimp only at hSw); obtain ⟨s0, s1⟩ := hSw; go_simp; (try with_reducible rfl)
        simp only [List.setIfInBounds_toArray, List.set_cons_zero, List.set_cons_succ]
      refine tree_call (f := 43) rfl (by rfl) (by first | (go_simp; done) | (go_simp; rfl)) (CC.out _) ?_
      rintro e w' ⟨rfl, rfl⟩
      refine ⟨_, rfl, _, fun _ h => h, ⟨x5, x6⟩, ?_⟩
      simp only [List.setIfInBounds_toArray, List.set_cons_zero, List.set_cons_succ]
      iterate 2
        refine tree_take (v := ?_) rfl (by rfl) ?_ ?_
        rotate_left
        · intro _ hSw; (try dsimp only at hSw); go_simp; (try with_reducible rfl)
        simp only [List.setIfInBounds_toArray, List.set_cons_zero, List.set_cons_succ]
      refine hPE _ _ ?_
      clear hPE PE
      simp only [List.drop_succ_cons, List.drop_zero, List.drop_nil]
      cases nc : (n == ct) with
      | false =>
        have hR := HR2.out
        rw [nc] at hR
        simp only [Bool.false_and, Bool.true_and, Bool.not_true, Bool.not_false, Bool.and_false, if_false, if_true, Bool.false_eq_true] at hR
        subst hR
        have hnc : ((n : Int) != (ct : Int)) = true := by simp at nc ⊢; omega
        clear nc
        go_wp2_with fail
        refine ⟨rfl, ?_⟩
        go_wp2_with fail
        go_ret
        exact ⟨rfl, HBD.out⟩
      | true =>
        have hR := HR2.out
        rw [nc] at hR
        simp only [Bool.false_and, Bool.true_and, Bool.not_true, Bool.not_false, Bool.and_false, if_false, if_true, Bool.false_eq_true] at hR
        have hnc : ((n : Int) != (ct : Int)) = false := by simp at nc ⊢; omega
        rw [hnc]
        have HR3 : Hid ((if ((xs.drop 0).all fun p => bchkP p.1 false == 0) = true then (0 : Int) else 2) = R) := Lib.hid (by rw [List.drop_zero]; exact hR)
        clear nc hR x5 x6 HR2
        go_wp2_with fail
        refine ⟨rfl, ?_⟩
        generalize w1.alloc (.cells #[.bool false, .bool bQ, .bool bV, .bool bF, .bool bC] 59) = w5 at HD HBD ⊢
        generalize w1.heap.size = g3 at HD ⊢
        go_wp2_with fail
        go_loopg [6] n (fun g t => fun wr => ∃ (j : Nat), j + g = n ∧ t = .int .i64 (j : Int) ∧ Hid ((if ((xs.drop j).all fun p => bchkP p.1 false == 0) = true then (0 : Int) else 2) = R) ∧ Hid (Below w5.drew.heap.size w5.drew wr))
        case atStart => exact ⟨0, by omega, rfl, HR3, Lib.hid (Below.refl _ _)⟩
        case round =>
          obtain ⟨j, hj, rfl, HF, HW⟩ := hrel
          have xx := HD.out.below HW.out
          have m6 := xx.tail.head.cell 6; have p0 := xx.head.cell 0
          (try dsimp only at m6 p0)
          clear xx
          cases gk with
          | zero =>
            obtain rfl : j = n := by omega
            have hR := HF.out
            rw [List.drop_eq_nil_of_le (by have := HNX.out; omega), List.all_nil, if_pos rfl] at hR
            subst hR
            have HBW := Lib.hid (HBD.out.trans (HW.out.mono HBD.out.size))
            clear hj
            go_wp2_with fail
            go_ret
            exact ⟨rfl, HBW.out⟩
          | succ g =>
            have hlt : ((j : Int) < (n : Int)) := by omega
            have hjl : j < xs.length := by have := HNX.out; omega
            have hbk := HBD.out.trans (HW.out.mono HBD.out.size)
            obtain ⟨ad9, rfl, _, c0, c1⟩ := sl_bk (HA.out.row.below hbk) j hjl
            have hbl := (HA.out.bl xs[j] (List.getElem_mem hjl)).below hbk
            have hbn := HA.out.lens xs[j] (List.getElem_mem hjl)
            have hR := HF.out
            rw [List.drop_eq_getElem_cons hjl, List.all_cons] at hR
            obtain ⟨⟨⟨dc, L⟩, B9, c9⟩, hx⟩ : ∃ x, xs[j] = x := ⟨_, rfl⟩
            rw [hx] at c0 c1 hbl hbn hR
            dsimp only at c0 c1 hbl hbn hR
            obtain ⟨ln, hln⟩ : ∃ ln, L.length = ln := ⟨_, rfl⟩
            rw [hln] at c1 hbn
            have CK := Lib.hid (fun W hW => ref12_Check dc L B9 ln c9 false W hW hln (by omega))
            have HBL := Lib.hid (hbl.below (HW.out.drew.mono (Nat.le_refl _) |> fun _ => (Below.refl wr.heap.size wr).drew))
            obtain ⟨er, her⟩ : ∃ er, bchkP ⟨dc, L⟩ false = er := ⟨_, rfl⟩
            rw [her] at CK hR
            have HWD := Lib.hid HW.out.drew
            have HJ := Lib.hid hj
            have hS : (wr.cell? ⟨w.heap.size, 6, none⟩ = some (.slice (some ad9) n c) ∧ wr.cell? ⟨g3, 0, none⟩ = some (.bool false) ∧ wr.cell? (ad9.add (j * 2)) = some (.int .i64 dc) ∧ wr.cell? ⟨(ad9.add (j * 2)).block, (ad9.add (j * 2)).off + 1, none⟩ = some (.slice B9 ln c9)) := ⟨m6, p0, c0, c1⟩
            have HSS := Lib.hid hS
            clear hx hln hbl hbn her hS hbk hj c0 c1
            cases e0 : (er != 0) with
            | true =>
              have e1 : (er == 0) = false := by simpa using e0
              rw [e1, Bool.false_and, if_neg Bool.false_ne_true] at hR
              subst hR
              have HBW := Lib.hid (HBD.out.trans (HWD.out.mono HBD.out.size))
              clear e1
              go_wp2_with fail
              refine wp_region_plan2 (fun w' => w'.cell? ⟨w.heap.size, 6, none⟩ = some (.slice (some ad9) n c) ∧ w'.cell? ⟨g3, 0, none⟩ = some (.bool false) ∧ w'.cell? (ad9.add (j * 2)) = some (.int .i64 dc) ∧ w'.cell? ⟨(ad9.add (j * 2)).block, (ad9.add (j * 2)).off + 1, none⟩ = some (.slice B9 ln c9)) 7 [(0, true), (1, true), (2, true), (3, true), (4, true), (5, true), (6, true)] (by kernel_rfl) (by kernel_rfl) (fun _ _ d _ _ h => by cases d <;> exact h) (by decide) (by simp only [List.map_cons, List.map_nil, Array.getD_eq_getD_getElem?, List.getElem?_toArray, List.getElem?_cons_zero, List.getElem?_cons_succ, Option.getD_some]; rfl) (by simp only [List.map_cons, List.map_nil]; rfl) (HSS.out) (fun PE hPE => ?_)
              iterate 7
                refine plan_take (v := ?_) rfl (by rfl) ?_ ?_
                rotate_left
                · intro _ hSw; (try dsimp only at hSw); obtain ⟨u0, u1, u2, u3⟩ := hSw; go_simp; (try with_reducible rfl)
                simp only [List.setIfInBounds_toArray, List.set_cons_zero, List.set_cons_succ]
              (refine hPE _ _ ?_; simp only [List.drop_succ_cons, List.drop_zero]; clear hPE PE)
              go_wp2_with (go_at_call 65; refine (CK.out _ HBL.out).mono ?_; rintro e w8 ⟨rfl, hb8⟩; have HB8 := Lib.hid (HBW.out.trans (hb8.mono HBW.out.size)); clear hb8)
              go_ret
              exact ⟨rfl, HB8.out⟩
            | false =>
              have e1 : (er == 0) = true := by simpa using e0
              rw [e1, Bool.true_and] at hR
              have HN := Lib.hid hR
              clear e1 hR
              go_wp2_with fail
              refine wp_region_plan2 (fun w' => w'.cell? ⟨w.heap.size, 6, none⟩ = some (.slice (some ad9) n c) ∧ w'.cell? ⟨g3, 0, none⟩ = some (.bool false) ∧ w'.cell? (ad9.add (j * 2)) = some (.int .i64 dc) ∧ w'.cell? ⟨(ad9.add (j * 2)).block, (ad9.add (j * 2)).off + 1, none⟩ = some (.slice B9 ln c9)) 7 [(0, true), (1, true), (2, true), (3, true), (4, true), (5, true), (6, true)] (by kernel_rfl) (by kernel_rfl) (fun _ _ d _ _ h => by cases d <;> exact h) (by decide) (by simp only [List.map_cons, List.map_nil, Array.getD_eq_getD_getElem?, List.getElem?_toArray, List.getElem?_cons_zero, List.getElem?_cons_succ, Option.getD_some]; rfl) (by simp only [List.map_cons, List.map_nil]; rfl) (HSS.out) (fun PE hPE => ?_)
              iterate 7
                refine plan_take (v := ?_) rfl (by rfl) ?_ ?_
                rotate_left
                · intro _ hSw; (try dsimp only at hSw); obtain ⟨u0, u1, u2, u3⟩ := hSw; go_simp; (try with_reducible rfl)
                simp only [List.setIfInBounds_toArray, List.set_cons_zero, List.set_cons_succ]
              (refine hPE _ _ ?_; simp only [List.drop_succ_cons, List.drop_zero]; clear hPE PE)
              go_wp2_with (go_at_call 65; refine (CK.out _ HBL.out).mono ?_; rintro e w8 ⟨rfl, hb8⟩; have HB8 := Lib.hid (HWD.out.trans (hb8.mono HWD.out.size)); clear hb8)
              go_roundg g
              case measure => omega
              case rel => exact ⟨j + 1, by have := HJ.out; omega, rfl, HN, HB8⟩
end Go.Proofs.YtcojnigkgbmbmaaGreatDoor
namespace Go.Proofs.YtcojnigkgbmbmaaGreatDoor
open Go Go.RowKit
attribute [local go_sem] Oper.semAt_some
theorem putT_kind {k : Int} (h : inK k = true) : putT kindC kindN k = (kindP k, 0) := by
  have hk : k = 1 ∨ k = 2 ∨ k = 3 ∨ k = 4 ∨ k = 5 ∨ k = 6 ∨ k = 7 ∨ k = 8 ∨ k = 9 ∨ k = 10 := by unfold inK at h; simp at h; omega
  clear h
  rcases hk with h | h | h | h | h | h | h | h | h | h
  all_goals
    rw [h]
    rfl
theorem putT_pat {k : Int} (h1 : 1 ≤ k) (h2 : k ≤ 63) : putT patC patN k = (patP k, 0) := by
  have hall : (List.range 63).all (fun j => putT patC patN ((j : Int) + 1) == (patP ((j : Int) + 1), 0)) = true := by kernel_rfl
  obtain ⟨j, hj⟩ := Int.eq_ofNat_of_zero_le (by omega : 0 ≤ k - 1)
  have := List.all_eq_true.1 hall j (List.mem_range.2 (by omega))
  rw [show (j : Int) + 1 = k by omega] at this
  simpa using this
set_option maxRecDepth 100000 in
set_option maxHeartbeats 16000000 in
theorem ref19_Put (m : MacM) (x : LastM) (xs : List BkE) (A : Option Addr) (c : Nat) (w : World) (hm : m.bl = xs.map (·.1)) (hA : BksAt w A xs) : Calls Tryz.prog 18 #[macV m A xs.length c, lastV x] w fun e w' => e = .returned (.tuple #[.string (bs (mputP m x).1), .int .i64 (mputP m x).2]) ∧ Below w.heap.size w w' := by
  have CK := Lib.hid (fun W hW => ref19_Check m xs A c W hm hW)
  have CA := Lib.hid (fun W => ref19_Ahead x m.ad W)
  obtain ⟨R, hR⟩ : ∃ R, mputP m x = R := ⟨_, rfl⟩
  rw [hR]
  have HM := Lib.hid hm
  unfold mputP at hR
  have hOK := okM_iff m
  obtain ⟨ok, hok⟩ : ∃ b, okM m = b := ⟨_, rfl⟩
  rw [hok] at hR CK hOK
  obtain ⟨ah, hah⟩ : ∃ b, aheadB x m.ad = b := ⟨_, rfl⟩
  rw [hah] at hR CA
  have HAH := Lib.hid hah
  have HOKI := Lib.hid hOK
  unfold macV lastV
  obtain ⟨ad, kd, qu, mx, my, pa, bl⟩ := m
  obtain ⟨la, lh, lx, ly⟩ := x
  dsimp only at CK CA hR ⊢
  obtain ⟨n, hn⟩ : ∃ n, xs.length = n := ⟨_, rfl⟩
  rw [hn] at CK ⊢
  have HN := Lib.hid hn; have HA := Lib.hid hA
  have hc0 : Cons w [(w.heap.size, 29, #[.int .i64 ad, .int .i64 kd, .int .i64 qu, .int .i64 mx, .int .i64 my, .int .i64 pa, .slice A n c]), (w.heap.size + 1, 24, #[.int .i64 la, .bool lh, .int .i64 lx, .int .i64 ly])] [] ((w.alloc (.cells #[.int .i64 ad, .int .i64 kd, .int .i64 qu, .int .i64 mx, .int .i64 my, .int .i64 pa, .slice A n c] 29)).alloc (.cells #[.int .i64 la, .bool lh, .int .i64 lx, .int .i64 ly] 24)) :=
    ⟨((Below.refl _ w).alloc (Nat.le_refl _) _).alloc (by simp) _, CellsAt.cons ((Blk.new w _ _).alloc _) (CellsAt.cons (blkAt (Blk.new _ _ _) (by simp)) (cellsAt_nil _)), rowsAt_nil _⟩
  have HC0 := Lib.hid hc0
  clear hm hok hah hOK hn hA hc0
  cases ok with
  | false =>
    simp only [Bool.false_and, Bool.false_eq_true, if_false] at hR CK
    subst hR
    go_enter Tryz.func18, Tryz.ntmps18
    go_wp2_with fail
    refine (CK.out _ (HA.out.below HC0.out.1 (Nat.le_refl _))).mono ?_
    rintro e w2 ⟨rfl, hb2⟩
    have HC2 := Lib.hid (cons_below HC0.out hb2)
    clear hb2
    go_wp2_with fail
    go_ret2
    exact ⟨rfl, HC2.out.1⟩
  | true =>
  simp only [Bool.true_and, if_true] at hR CK
  cases ah with
  | false =>
    simp only [Bool.false_eq_true, if_false] at hR
    subst hR
    go_enter Tryz.func18, Tryz.ntmps18
    go_wp2_with fail
    refine (CK.out _ (HA.out.below HC0.out.1 (Nat.le_refl _))).mono ?_
    rintro e w2 ⟨rfl, hb2⟩
    have hc2 := cons_below HC0.out hb2
    have xm := hc2.2.1.head; have m0 := xm.cell 0; have m1 := xm.cell 1; have m2 := xm.cell 2; have m3 := xm.cell 3; have m4 := xm.cell 4; have m5 := xm.cell 5; have m6 := xm.cell 6; (try dsimp only at m0 m1 m2 m3 m4 m5 m6); clear xm; have xl := hc2.2.1.tail.head; have l0 := xl.cell 0; have l1 := xl.cell 1; have l2 := xl.cell 2; have l3 := xl.cell 3; (try dsimp only at l0 l1 l2 l3); clear xl
    have HC2 := Lib.hid hc2
    clear hb2 hc2
    go_wp2_with fail
    refine (CA.out _).mono ?_
    rintro e w3 ⟨rfl, hb3⟩
    have HC3 := Lib.hid (cons_below HC2.out hb3)
    clear hb3
    clear m0 m1 m2 m3 m4 m5 m6; clear l0 l1 l2 l3
    go_wp2_with fail
    go_ret2
    exact ⟨rfl, HC3.out.1⟩
  | true =>
  simp only [if_true] at hR
  subst hR
  have hok := HOKI.out.1 rfl
  have HOK := Lib.hid hok
  have HCK := hok.kd
  have CO := Lib.hid (fun W => ref05_Of kd W)
  unfold OfPost prtL at CO
  dsimp only at HCK
  rw [HCK, if_pos rfl] at CO
  have CP := Lib.hid (fun W => ref05_Put kd W)
  rw [putT_kind HCK] at CP
  dsimp only at CP
  obtain ⟨OUT, hout⟩ : ∃ O, mputL ⟨ad, kd, qu, mx, my, pa, bl⟩ ⟨la, lh, lx, ly⟩ = O := ⟨_, rfl⟩
  dsimp only
  rw [hout]
  unfold mputL at hout
  dsimp only at hout
  rw [List.append_assoc, List.append_assoc, List.append_assoc] at hout
  have HOUT := Lib.hid hout
  clear hok hout HCK HOKI
  go_enter Tryz.func18, Tryz.ntmps18
  go_wp2_with fail
  refine (CK.out _ (HA.out.below HC0.out.1 (Nat.le_refl _))).mono ?_
  rintro e w2 ⟨rfl, hb2⟩
  have hc2 := cons_below HC0.out hb2
  have xm := hc2.2.1.head; have m0 := xm.cell 0; have m1 := xm.cell 1; have m2 := xm.cell 2; have m3 := xm.cell 3; have m4 := xm.cell 4; have m5 := xm.cell 5; have m6 := xm.cell 6; (try dsimp only at m0 m1 m2 m3 m4 m5 m6); clear xm; have xl := hc2.2.1.tail.head; have l0 := xl.cell 0; have l1 := xl.cell 1; have l2 := xl.cell 2; have l3 := xl.cell 3; (try dsimp only at l0 l1 l2 l3); clear xl
  have HC2 := Lib.hid hc2
  clear hb2 hc2 CK HC0
  go_wp2_with fail
  refine (CA.out _).mono ?_
  rintro e w3 ⟨rfl, hb3⟩
  have hc3 := cons_below HC2.out hb3
  clear m0 m1 m2 m3 m4 m5 m6; clear l0 l1 l2 l3
  have xm := hc3.2.1.head; have m0 := xm.cell 0; have m1 := xm.cell 1; have m2 := xm.cell 2; have m3 := xm.cell 3; have m4 := xm.cell 4; have m5 := xm.cell 5; have m6 := xm.cell 6; (try dsimp only at m0 m1 m2 m3 m4 m5 m6); clear xm; have xl := hc3.2.1.tail.head; have l0 := xl.cell 0; have l1 := xl.cell 1; have l2 := xl.cell 2; have l3 := xl.cell 3; (try dsimp only at l0 l1 l2 l3); clear xl
  have HC3 := Lib.hid hc3
  clear hb3 hc3 CA HC2
  go_wp2_with fail
  refine (CO.out _).mono ?_
  rintro e w4 ⟨rfl, hb4⟩
  have hc4 := cons_alloc (cons_below HC3.out hb4) (.cells #[.bool (pI kd), .bool (pQ kd), .bool (pV kd), .bool (pF kd), .bool (pC kd)] 59)
  have hbk := Blk.new w4 59 #[.bool (pI kd), .bool (pQ kd), .bool (pV kd), .bool (pF kd), .bool (pC kd)]
  obtain ⟨g, hg⟩ : ∃ g, w4.heap.size = g := ⟨_, rfl⟩
  have hc4 : Cons w [(w.heap.size, 29, #[.int .i64 ad, .int .i64 kd, .int .i64 qu, .int .i64 mx, .int .i64 my, .int .i64 pa, .slice A n c]), (w.heap.size + 1, 24, #[.int .i64 la, .bool lh, .int .i64 lx, .int .i64 ly]), (g, 59, #[.bool (pI kd), .bool (pQ kd), .bool (pV kd), .bool (pF kd), .bool (pC kd)])] [] _ := ⟨hc4.1, CellsAt.cons hc4.2.1.head (CellsAt.cons hc4.2.1.tail.head (CellsAt.cons (blkAt hbk hg) (cellsAt_nil _))), rowsAt_nil _⟩
  clear m0 m1 m2 m3 m4 m5 m6; clear l0 l1 l2 l3
  have xm := hc4.2.1.head; have m0 := xm.cell 0; have m1 := xm.cell 1; have m2 := xm.cell 2; have m3 := xm.cell 3; have m4 := xm.cell 4; have m5 := xm.cell 5; have m6 := xm.cell 6; (try dsimp only at m0 m1 m2 m3 m4 m5 m6); clear xm; have xl := hc4.2.1.tail.head; have l0 := xl.cell 0; have l1 := xl.cell 1; have l2 := xl.cell 2; have l3 := xl.cell 3; (try dsimp only at l0 l1 l2 l3); clear xl
  have HC4 := Lib.hid hc4
  clear hb4 hc4 hbk CO HC3
  go_wp2_with fail
  refine (CP.out _).mono ?_
  rintro e w5 ⟨rfl, hb5⟩
  have hc5 := cons_below HC4.out hb5
  clear m0 m1 m2 m3 m4 m5 m6; clear l0 l1 l2 l3
  have HC5 := Lib.hid hc5
  clear hb5 hc5 CP HC4
  (try rw [hg])
  clear hg
  have m2 := HC5.out.2.1.head.cell 2
  have q1 := HC5.out.2.1.tail.tail.head.cell 1
  dsimp only at m2 q1
  go_upto_if 48 with fail
  obtain ⟨QS, hqs⟩ : ∃ QS, (if pQ kd then digL qu.toNat 5 else []) = QS := ⟨_, rfl⟩
  rw [hqs] at HOUT
  have HQS := Lib.hid hqs
  have hq1 := HOK.out.q1
  have hkl := kindP_len kd
  dsimp only at hq1
  have HQ1 := Lib.hid hq1
  clear hqs hq1
  go_cut [8] (fun s wx => s = .string (bs (kindP kd ++ QS)) ∧ Hid (Cons w [(w.heap.size, 29, #[.int .i64 ad, .int .i64 kd, .int .i64 qu, .int .i64 mx, .int .i64 my, .int .i64 pa, .slice A n c]), (w.heap.size + 1, 24, #[.int .i64 la, .bool lh, .int .i64 lx, .int .i64 ly]), (g, 59, #[.bool (pI kd), .bool (pQ kd), .bool (pV kd), .bool (pF kd), .bool (pC kd)])] [] wx))
  case first =>
    have hqq := HQ1.out
    have hqs2 := HQS.out
    obtain ⟨bQ, hbq⟩ : ∃ b, pQ kd = b := ⟨_, rfl⟩
    rw [hbq] at q1 hqq hqs2 ⊢
    obtain ⟨KP, hkp⟩ : ∃ KP, kindP kd = KP := ⟨_, rfl⟩
    rw [hkp] at hkl ⊢
    have HKP := Lib.hid hkp
    clear hbq hkp
    cases bQ with
    | false =>
      rw [if_neg (by decide)] at hqs2
      have HQ2 := Lib.hid hqs2
      clear hqq hqs2
      go_wp2_with fail
      go_meet
      case rel => exact ⟨by rw [← HQ2.out, HKP.out, List.append_nil], HC5⟩
    | true =>
      rw [if_pos rfl] at hqs2
      obtain ⟨h1, h2⟩ := hqq rfl
      obtain ⟨q, rfl⟩ : ∃ q : Nat, qu = (q : Int) := ⟨qu.toNat, by omega⟩
      rw [Int.toNat_natCast] at hqs2
      have CD := Lib.hid (fun W => ref17_Digits q 5 (by omega) (by decide) W)
      have hdl := digL_len q 5
      rw [hqs2] at CD hdl
      clear hqs2 h1 h2 hqq
      go_wp2_with (go_at_call 54; refine (CD.out _).mono ?_; rintro e w6 ⟨rfl, hb6⟩; have HC6 := Lib.hid (cons_below HC5.out hb6); clear hb6)
      go_meet
      case rel => exact ⟨by rw [HKP.out], HC6⟩
  obtain ⟨rfl, HC6⟩ := hcut
  have hsl : (kindP kd ++ QS).length ≤ 29 := by
    have h2 : QS.length ≤ 5 := by rw [← HQS.out]; split <;> simp [digL]
    rw [List.length_append]; omega
  clear hkl m2 q1 HC5 HQ1
  have q2 := HC6.out.2.1.tail.tail.head.cell 2
  dsimp only at q2
  go_upto_if 55 with fail
  obtain ⟨⟨p1, p2⟩, hpr⟩ : ∃ p, predP ad (ad - la) lh lx ly = p := ⟨_, rfl⟩
  have hax : (0 : Int) ≤ la ∧ la < ad ∧ partB lx = true ∧ partB ly = true := by
    have h := HAH.out
    unfold aheadB at h
    simp only [Bool.and_eq_true, decide_eq_true_eq] at h
    exact ⟨h.1.1.1.1, h.1.1.1.2, h.1.1.2, h.1.2⟩
  have had33 := HOK.out.a2
  dsimp only at had33
  have hws : IntKind.i64.wrap (ad - la) = ad - la := by rw [IntKind.wrap_i64]; omega
  have hpp : partB p1 = true ∧ partB p2 = true := by
    unfold predP at hpr
    split at hpr
    · rw [← (Prod.mk.inj hpr).1, ← (Prod.mk.inj hpr).2]; exact ⟨rfl, rfl⟩
    · rw [← (Prod.mk.inj hpr).1, ← (Prod.mk.inj hpr).2]; exact ⟨hax.2.2.1, hax.2.2.2⟩
  have CPR := Lib.hid (fun W => ref06_Predict ad (ad - la) lh lx ly W)
  rw [hpr] at HOUT CPR
  dsimp only at HOUT CPR
  have D1 := Lib.hid (fun W => ref06_Diff p1 mx W hpp.1 HOK.out.px)
  have D2 := Lib.hid (fun W => ref06_Diff p2 my W hpp.2 HOK.out.py)
  have P1 := Lib.hid (fun W => ref06_Put (diffP p1 mx) W (diffP_range p1 mx).1 (diffP_range p1 mx).2)
  have P2 := Lib.hid (fun W => ref06_Put (diffP p2 my) W (diffP_range p2 my).1 (diffP_range p2 my).2)
  obtain ⟨VS, hvs⟩ : ∃ VS, (if pV kd then movP p1 mx ++ movP p2 my else []) = VS := ⟨_, rfl⟩
  rw [hvs] at HOUT
  have HVS := Lib.hid hvs
  obtain ⟨S0, hs0⟩ : ∃ S0, kindP kd ++ QS = S0 := ⟨_, rfl⟩
  have HS0 := Lib.hid hs0
  rw [hs0] at hsl ⊢
  clear hvs hpr hpp hs0 hax had33
  go_cut [8] (fun s wx => s = .string (bs (S0 ++ VS)) ∧ Hid (Cons w [(w.heap.size, 29, #[.int .i64 ad, .int .i64 kd, .int .i64 qu, .int .i64 mx, .int .i64 my, .int .i64 pa, .slice A n c]), (w.heap.size + 1, 24, #[.int .i64 la, .bool lh, .int .i64 lx, .int .i64 ly]), (g, 59, #[.bool (pI kd), .bool (pQ kd), .bool (pV kd), .bool (pF kd), .bool (pC kd)])] [] wx))
  case first =>
    have hvs2 := HVS.out
    obtain ⟨bV, hbv⟩ : ∃ b, pV kd = b := ⟨_, rfl⟩
    rw [hbv] at q2 hvs2 ⊢
    clear hbv
    cases bV with
    | false =>
      rw [if_neg (by decide)] at hvs2
      have HV2 := Lib.hid hvs2
      clear hvs2
      go_wp2_with fail
      go_meet
      case rel => exact ⟨by rw [← HV2.out, List.append_nil], HC6⟩
    | true =>
      rw [if_pos rfl] at hvs2
      have hm1 := movP_len p1 mx
      have hm2 := movP_len p2 my
      unfold movP at hvs2 hm1 hm2
      have HV2 := Lib.hid hvs2
      clear hvs2
      obtain ⟨d1, hd1⟩ : ∃ d, diffP p1 mx = d := ⟨_, rfl⟩
      obtain ⟨d2, hd2⟩ : ∃ d, diffP p2 my = d := ⟨_, rfl⟩
      rw [hd1] at D1 P1 HV2 hm1
      rw [hd2] at D2 P2 HV2 hm2
      clear hd1 hd2
      obtain ⟨V1, hv1⟩ : ∃ V, vecP d1 = V := ⟨_, rfl⟩
      obtain ⟨V2, hv2⟩ : ∃ V, vecP d2 = V := ⟨_, rfl⟩
      rw [hv1] at P1 HV2 hm1
      rw [hv2] at P2 HV2 hm2
      clear hv1 hv2
      have m0 := HC6.out.2.1.head.cell 0; have m3 := HC6.out.2.1.head.cell 3; have m4 := HC6.out.2.1.head.cell 4
      have l0 := HC6.out.2.1.tail.head.cell 0; have l1 := HC6.out.2.1.tail.head.cell 1; have l2 := HC6.out.2.1.tail.head.cell 2; have l3 := HC6.out.2.1.tail.head.cell 3
      dsimp only at m0 m3 m4 l0 l1 l2 l3
      have HSL := Lib.hid (show (S0 ++ V1).length ≤ 60 by rw [List.length_append]; omega)
      have hsl2 := HSL.out
      go_wp2_with (first | (go_at_call 40; refine (CPR.out _).mono ?_; rintro e w' ⟨rfl, rfl⟩; clear CPR) | (go_at_call 55; refine (D1.out _).mono ?_; rintro e w' ⟨rfl, rfl⟩; clear D1) | (go_at_call 55; refine (D2.out _).mono ?_; rintro e w' ⟨rfl, rfl⟩; clear D2) | (go_at_call 56; refine (P1.out _).mono ?_; rintro e w7 ⟨rfl, hb7⟩; have HC7 := Lib.hid (cons_below HC6.out hb7); clear hb7 P1) | (go_at_call 56; refine (P2.out _).mono ?_; rintro e w8 ⟨rfl, hb8⟩; have HC8 := Lib.hid (cons_below HC7.out hb8); clear hb8))
      go_meet
      case rel => exact ⟨by rw [← HV2.out, ← List.append_assoc]; try rfl, HC8⟩
  obtain ⟨rfl, HC7⟩ := hcut
  clear q2 HC6
  have hsl : (S0 ++ VS).length ≤ 77 := by
    have h2 : VS.length ≤ 48 := by
      rw [← HVS.out]
      have := movP_len p1 mx; have := movP_len p2 my
      split
      · rw [List.length_append]; omega
      · simp
    rw [List.length_append]; omega
  have q4 := HC7.out.2.1.tail.tail.head.cell 4
  have m5 := HC7.out.2.1.head.cell 5
  dsimp only at q4 m5
  go_upto_if 103 with fail
  obtain ⟨PS, hps⟩ : ∃ PS, (if pC kd then patP pa else []) = PS := ⟨_, rfl⟩
  rw [hps] at HOUT
  have HPS := Lib.hid hps
  obtain ⟨S1, hs1⟩ : ∃ S1, S0 ++ VS = S1 := ⟨_, rfl⟩
  have HS1 := Lib.hid hs1
  rw [hs1] at hsl ⊢
  clear hps hs1
  have hpa : pC kd = true → 1 ≤ pa ∧ pa ≤ 63 := fun h => by
    have i1 := HOK.out.i1; have c1 := HOK.out.c1
    dsimp only at i1 c1
    cases hI : pI kd with
    | true => have := i1 hI; omega
    | false => exact c1 hI h
  have HPA := Lib.hid hpa
  clear hpa
  go_cut [8] (fun s wx => s = .string (bs (S1 ++ PS)) ∧ Hid (Cons w [(w.heap.size, 29, #[.int .i64 ad, .int .i64 kd, .int .i64 qu, .int .i64 mx, .int .i64 my, .int .i64 pa, .slice A n c]), (w.heap.size + 1, 24, #[.int .i64 la, .bool lh, .int .i64 lx, .int .i64 ly]), (g, 59, #[.bool (pI kd), .bool (pQ kd), .bool (pV kd), .bool (pF kd), .bool (pC kd)])] [] wx))
  case first =>
    have hps2 := HPS.out
    have hpa := HPA.out
    obtain ⟨bC, hbc⟩ : ∃ b, pC kd = b := ⟨_, rfl⟩
    rw [hbc] at q4 hps2 hpa ⊢
    clear hbc
    cases bC with
    | false =>
      rw [if_neg (by decide)] at hps2
      have HP2 := Lib.hid hps2
      clear hps2 hpa
      go_wp2_with fail
      go_meet
      case rel => exact ⟨by rw [← HP2.out, List.append_nil], HC7⟩
    | true =>
      rw [if_pos rfl] at hps2
      obtain ⟨h1, h2⟩ := hpa rfl
      have CQ := Lib.hid (fun W => ref07_Put pa W)
      rw [putT_pat h1 h2] at CQ
      dsimp only at CQ
      have hpl := patP_len pa
      rw [hps2] at CQ hpl
      clear hps2 hpa h1 h2
      go_wp2_with (go_at_call 57; refine (CQ.out _).mono ?_; rintro e w8 ⟨rfl, hb8⟩; have HC8 := Lib.hid (cons_below HC7.out hb8); clear hb8)
      go_meet
      case rel => exact ⟨rfl, HC8⟩
  obtain ⟨rfl, HC8⟩ := hcut
  clear q4 m5 HC7
  have hsl : (S1 ++ PS).length ≤ 101 := by
    have h2 : PS.length ≤ 24 := by
      rw [← HPS.out]
      split
      · exact patP_len pa
      · simp
    rw [List.length_append]; omega
  obtain ⟨S2, hs2⟩ : ∃ S2, S1 ++ PS = S2 := ⟨_, rfl⟩
  have HS2 := Lib.hid hs2
  rw [hs2] at hsl ⊢
  clear hs2
  have HALL : Hid (∀ p ∈ xs, bchkP p.1 (pI kd) = 0) := Lib.hid (fun p hp => by
    have h := HOK.out.bl
    have h2 := HM.out
    (try dsimp only at h)
    (try dsimp only at h2)
    rw [h2] at h
    exact h p.1 (List.mem_map.2 ⟨p, hp, rfl⟩))
  have HOUT2 : Hid (S2 ++ xs.flatMap (fun p => bputP p.1 (pI kd)) = OUT) := Lib.hid (by
    rw [← HOUT.out, ← HS2.out, ← HS1.out, ← HS0.out]
    have h2 := HM.out
    (try dsimp only at h2)
    rw [h2, List.flatMap_map]
    simp only [List.append_assoc])
  have HSL2 := Lib.hid hsl
  have hn64 := HA.out.len
  rw [HN.out] at hn64
  have HN64 := Lib.hid hn64
  clear hsl hn64 HOUT HS2 HS1 HS0 HQS HVS HPS HPA CPR D1 D2 P1 P2 hws
  generalize pI kd = bI at *
  go_wp2_with fail
  go_loopg [8, 22] n (fun gg v8 v22 => fun wr => ∃ (j : Nat), j + gg = n ∧ v8 = .string (bs (S2 ++ (xs.take j).flatMap (fun p => bputP p.1 bI))) ∧ v22 = .int .i64 (j : Int) ∧ Hid (Cons w [(w.heap.size, 29, #[.int .i64 ad, .int .i64 kd, .int .i64 qu, .int .i64 mx, .int .i64 my, .int .i64 pa, .slice A n c]), (w.heap.size + 1, 24, #[.int .i64 la, .bool lh, .int .i64 lx, .int .i64 ly]), (g, 59, #[.bool bI, .bool (pQ kd), .bool (pV kd), .bool (pF kd), .bool (pC kd)])] [] wr))
  case atStart => exact ⟨0, by omega, by rw [List.take_zero, List.flatMap_nil, List.append_nil], rfl, HC8⟩
  case round =>
    obtain ⟨j, hj, rfl, rfl, HC⟩ := hrel
    have m6 := HC.out.2.1.head.cell 6
    have q0 := HC.out.2.1.tail.tail.head.cell 0
    dsimp only at m6 q0
    cases gk with
    | zero =>
      obtain rfl : j = n := by omega
      rw [List.take_of_length_le (by have := HN.out; omega), HOUT2.out]
      clear hj
      go_wp2_with fail
      go_ret2
      exact ⟨rfl, HC.out.1⟩
    | succ gg =>
      have hlt : ((j : Int) < (n : Int)) := by omega
      have hjl : j < xs.length := by have := HN.out; omega
      obtain ⟨ad9, rfl, _, c0, c1⟩ := sl_bk (HA.out.row.below HC.out.1) j hjl
      have hbl := (HA.out.bl xs[j] (List.getElem_mem hjl)).below HC.out.1.drew
      have hbc := HALL.out xs[j] (List.getElem_mem hjl)
      have htk : (xs.take (j + 1)).flatMap (fun p => bputP p.1 bI) = (xs.take j).flatMap (fun p => bputP p.1 bI) ++ bputP xs[j].1 bI := by
        rw [List.take_add_one, List.getElem?_eq_getElem hjl, List.flatMap_append]
        simp
      have hbd : ∀ (ys : List BkE), (∀ p ∈ ys, bchkP p.1 bI = 0) → (ys.flatMap fun p => bputP p.1 bI).length ≤ 1300 * ys.length := fun ys => by
        induction ys with
        | nil => intro _; simp
        | cons y ys ih =>
          intro h
          rw [List.flatMap_cons, List.length_append, List.length_cons]
          have h1 := bput_lenM (h y (by simp))
          have h2 := ih (fun p hp => h p (List.mem_cons_of_mem _ hp))
          omega
      have hb1 := hbd (xs.take j) (fun p hp => HALL.out p (List.mem_of_mem_take hp))
      have hb2 := bput_lenM hbc
      have hrow : ∀ W, Below w.heap.size w W → W.cell? (ad9.add (j * 2)) = some (.int .i64 xs[j].1.dc) ∧ W.cell? ⟨(ad9.add (j * 2)).block, (ad9.add (j * 2)).off + 1, none⟩ = some (.slice xs[j].2.1 xs[j].1.l.length xs[j].2.2) := fun W hW => by
        obtain ⟨ad', e', _, d0, d1⟩ := sl_bk (HA.out.row.below hW) j hjl
        cases e'
        exact ⟨d0, d1⟩
      obtain ⟨⟨⟨dc, L⟩, B9, c9⟩, hx⟩ : ∃ x, xs[j] = x := ⟨_, rfl⟩
      rw [hx] at c0 c1 hbl hbc htk hb2 hrow
      dsimp only at c0 c1 hbl hbc htk hb2 hrow
      obtain ⟨ln, hln⟩ : ∃ ln, L.length = ln := ⟨_, rfl⟩
      rw [hln] at c1 hrow
      have HROW := Lib.hid hrow
      have CB := Lib.hid (fun W hW => ref12_Put dc L B9 ln c9 bI W hW hln hbc)
      obtain ⟨BP, hbp⟩ : ∃ BP, bputP ⟨dc, L⟩ bI = BP := ⟨_, rfl⟩
      rw [hbp] at CB htk hb2
      obtain ⟨T, hT⟩ : ∃ T, S2 ++ (xs.take j).flatMap (fun p => bputP p.1 bI) = T := ⟨_, rfl⟩
      have hTl : T.length ≤ 100000 := by
        rw [← hT, List.length_append]
        have := HSL2.out; have := HN64.out
        have h3 : (xs.take j).length ≤ 64 := by rw [List.length_take]; omega
        omega
      have HT2 := Lib.hid (show S2 ++ (xs.take (j + 1)).flatMap (fun p => bputP p.1 bI) = T ++ BP by rw [htk, ← List.append_assoc, hT])
      rw [hT]
      have HBL := Lib.hid hbl
      have hS : (wr.cell? ⟨w.heap.size, 6, none⟩ = some (.slice (some ad9) n c) ∧ wr.cell? ⟨g, 0, none⟩ = some (.bool bI) ∧ wr.cell? (ad9.add (j * 2)) = some (.int .i64 dc) ∧ wr.cell? ⟨(ad9.add (j * 2)).block, (ad9.add (j * 2)).off + 1, none⟩ = some (.slice B9 ln c9)) := ⟨m6, q0, c0, c1⟩
      have HSS := Lib.hid hS
      have HCD := Lib.hid (cons_drew HC.out)
      have HJ := Lib.hid hj
      have hw1 : IntKind.i64.wrap ((j : Int) + 1) = (j : Int) + 1 := by have := HN64.out; rw [IntKind.wrap_i64]; omega
      clear hbl hbc htk hbd hb1 hx hln hbp hT hS hj hjl c0 c1 hrow
      go_wp2_with fail
      refine wp_region_treeN (fun w' => w'.cell? ⟨w.heap.size, 6, none⟩ = some (.slice (some ad9) n c) ∧ w'.cell? ⟨g, 0, none⟩ = some (.bool bI) ∧ w'.cell? (ad9.add (j * 2)) = some (.int .i64 dc) ∧ w'.cell? ⟨(ad9.add (j * 2)).block, (ad9.add (j * 2)).off + 1, none⟩ = some (.slice B9 ln c9)) 13 (.take 0 (.take 1 (.take 2 (.take 3 (.take 4 (.take 5 (.take 6 (.step 7 (.take 8 (.take 9 (.take 10 (.step 11 (.step 12 .done))))))))))))) (by kernel_rfl) (by kernel_rfl) (by simp only [Pln.out, Array.getD_eq_getD_getElem?, List.getElem?_toArray, List.getElem?_cons_zero, List.getElem?_cons_succ, Option.getD_some]; rfl) (by simp only [List.map_cons, List.map_nil]; rfl) (HSS.out) (fun PE hPE => ?_)
      iterate 7
        refine tree_take (v := ?_) rfl (by rfl) ?_ ?_
        rotate_left
        · intro _ hSw; (try dsimp only at hSw); obtain ⟨u0, u1, u2, u3⟩ := hSw; go_simp; (try with_reducible rfl)
        simp only [List.setIfInBounds_toArray, List.set_cons_zero, List.set_cons_succ]
      refine tree_call (f := 58) rfl (by rfl) (by first | (go_simp; done) | (go_simp; rfl)) (CB.out _ HBL.out) ?_
      rintro e w9 ⟨rfl, hb9⟩
      have hc9 := cons_below HCD.out hb9
      have hS9 : _ ∧ _ ∧ _ ∧ _ := ⟨hc9.2.1.head.cell 6, hc9.2.1.tail.tail.head.cell 0, (HROW.out w9 hc9.1).1, (HROW.out w9 hc9.1).2⟩
      have HC9 := Lib.hid hc9
      clear hb9 hc9
      refine ⟨_, rfl, _, fun _ h => h, hS9, ?_⟩
      simp only [List.setIfInBounds_toArray, List.set_cons_zero, List.set_cons_succ]
      iterate 3
        refine tree_take (v := ?_) rfl (by rfl) ?_ ?_
        rotate_left
        · intro _ hSw; (try dsimp only at hSw); go_simp; (try with_reducible rfl)
        simp only [List.setIfInBounds_toArray, List.set_cons_zero, List.set_cons_succ]
      refine tree_value (v := ?_) (w' := ?_) rfl (by rfl) ?_ ?_ ?_
      rotate_left 2
      · go_simp; (try (constructor <;> with_reducible rfl))
      · exact hS9
      simp only [List.setIfInBounds_toArray, List.set_cons_zero, List.set_cons_succ]
      refine tree_value (v := ?_) (w' := ?_) rfl (by rfl) ?_ ?_ ?_
      rotate_left 2
      · go_simp; (try (constructor <;> with_reducible rfl))
      · exact hS9
      simp only [List.setIfInBounds_toArray, List.set_cons_zero, List.set_cons_succ]
      refine hPE _ _ ?_
      clear hPE PE
      simp only [List.drop_succ_cons, List.drop_zero, List.drop_nil]
      clear hS9 m6 q0
      go_wp2_with fail
      refine ⟨rfl, ?_⟩
      go_wp2_with fail
      go_roundg gg
      case measure => omega
      case rel => exact ⟨j + 1, by have := HJ.out; omega, by rw [HT2.out], rfl, HC9⟩
end Go.Proofs.YtcojnigkgbmbmaaGreatDoor
