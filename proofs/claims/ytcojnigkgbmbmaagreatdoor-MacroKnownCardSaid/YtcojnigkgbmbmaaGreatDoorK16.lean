/- Mac1, PatC -/
import Derived.Test.YtcojnigkgbmbmaaGreatDoorK14
import Derived.Test.YtcojnigkgbmbmaaGreatDoorK15
import Derived.Test.YtcojnigkgbmbmaaGreatDoorK11
import Derived.Test.YtcojnigkgbmbmaaGreatDoorK13
namespace Go.Proofs.YtcojnigkgbmbmaaGreatDoor
open Go Go.RowKit
def lastV (x : LastM) : Value := .agg #[.int .i64 x.ad, .bool x.had, .int .i64 x.x, .int .i64 x.y]
def macV (m : MacM) (A : Option Addr) (n c : Nat) : Value := .agg #[.int .i64 m.ad, .int .i64 m.kd, .int .i64 m.qu, .int .i64 m.x, .int .i64 m.y, .int .i64 m.pa, .slice A n c]
theorem macro_part (n : Int) (w : World) : Calls Tryz.prog 59 #[.int .i64 n] w fun e w' => e = .returned (.bool (partB n)) ∧ w = w' := by
  by_cases a : -15 ≤ n
  · have a1 : decide (-15 ≤ n) = true := decide_eq_true a
    by_cases b : n ≤ 15
    · have b1 : decide (n ≤ 15) = true := decide_eq_true b
      have hv : partB n = true := by simp [partB, a, b]
      rw [hv]; clear hv
      go_enter Tryz.func59, Tryz.ntmps59
      go_wp2
      go_ret
      exact ⟨rfl, rfl⟩
    · have b1 : decide (n ≤ 15) = false := decide_eq_false b
      have hv : partB n = false := by simp [partB]; omega
      rw [hv]; clear hv
      go_enter Tryz.func59, Tryz.ntmps59
      go_wp2
      go_ret
      exact ⟨rfl, rfl⟩
  · have a1 : decide (-15 ≤ n) = false := decide_eq_false a
    have hv : partB n = false := by simp [partB]; omega
    rw [hv]; clear hv
    go_enter Tryz.func59, Tryz.ntmps59
    go_wp2
    go_ret
    exact ⟨rfl, rfl⟩
set_option maxHeartbeats 2000000 in
theorem macro_ahead (x : LastM) (ad : Int) (w : World) : Calls Tryz.prog 32 #[lastV x, .int .i64 ad] w fun e w' => e = .returned (.bool (aheadB x ad)) ∧ Below w.heap.size w w' := by
  obtain ⟨a, had, p, q⟩ := x
  unfold aheadB lastV
  dsimp only
  cases d1 : decide (0 ≤ a) with
  | false =>
    simp only [Bool.false_and, Bool.and_false, Bool.true_and]
    go_enter Tryz.func32, Tryz.ntmps32
    go_wp2_with (go_at_call 59; refine (macro_part _ _).mono ?_; rintro e w' ⟨rfl, rfl⟩)
    go_ret
    exact ⟨rfl, (Below.refl _ _).alloc (Nat.le_refl _) _⟩
  | true =>
    cases d2 : decide (a < ad) with
    | false =>
      simp only [Bool.false_and, Bool.and_false, Bool.true_and]
      go_enter Tryz.func32, Tryz.ntmps32
      go_wp2_with (go_at_call 59; refine (macro_part _ _).mono ?_; rintro e w' ⟨rfl, rfl⟩)
      go_ret
      exact ⟨rfl, (Below.refl _ _).alloc (Nat.le_refl _) _⟩
    | true =>
      cases d3 : partB p with
      | false =>
        simp only [Bool.false_and, Bool.and_false, Bool.true_and]
        go_enter Tryz.func32, Tryz.ntmps32
        go_wp2_with (go_at_call 59; refine (macro_part _ _).mono ?_; rintro e w' ⟨rfl, rfl⟩)
        go_ret
        exact ⟨rfl, (Below.refl _ _).alloc (Nat.le_refl _) _⟩
      | true =>
        cases d4 : partB q with
        | false =>
          simp only [Bool.false_and, Bool.and_false, Bool.true_and]
          go_enter Tryz.func32, Tryz.ntmps32
          go_wp2_with (go_at_call 59; refine (macro_part _ _).mono ?_; rintro e w' ⟨rfl, rfl⟩)
          go_ret
          exact ⟨rfl, (Below.refl _ _).alloc (Nat.le_refl _) _⟩
        | true =>
          simp only [Bool.true_and]
          cases had with
          | true =>
            simp only [Bool.true_or]
            go_enter Tryz.func32, Tryz.ntmps32
            go_wp2_with (go_at_call 59; refine (macro_part _ _).mono ?_; rintro e w' ⟨rfl, rfl⟩)
            go_ret
            exact ⟨rfl, (Below.refl _ _).alloc (Nat.le_refl _) _⟩
          | false =>
            simp only [Bool.false_or]
            cases d6 : (p == 0) with
            | false =>
              simp only [Bool.false_and]
              go_enter Tryz.func32, Tryz.ntmps32
              go_wp2_with (go_at_call 59; refine (macro_part _ _).mono ?_; rintro e w' ⟨rfl, rfl⟩)
              go_ret
              exact ⟨rfl, (Below.refl _ _).alloc (Nat.le_refl _) _⟩
            | true =>
              cases d7 : (q == 0) with
              | false =>
                simp only [Bool.and_false]
                go_enter Tryz.func32, Tryz.ntmps32
                go_wp2_with (go_at_call 59; refine (macro_part _ _).mono ?_; rintro e w' ⟨rfl, rfl⟩)
                go_ret
                exact ⟨rfl, (Below.refl _ _).alloc (Nat.le_refl _) _⟩
              | true =>
                simp only [Bool.and_self]
                go_enter Tryz.func32, Tryz.ntmps32
                go_wp2_with (go_at_call 59; refine (macro_part _ _).mono ?_; rintro e w' ⟨rfl, rfl⟩)
                go_ret
                exact ⟨rfl, (Below.refl _ _).alloc (Nat.le_refl _) _⟩
theorem macro_predictor (x : LastM) (ad : Int) (w : World) (h : 0 ≤ x.ad) (h2 : x.ad < ad) (h3 : ad ≤ 100) : Calls Tryz.prog 33 #[lastV x, .int .i64 ad] w fun e w' => e = .returned (.tuple #[.int .i64 (predP ad (ad - x.ad) x.had x.x x.y).1, .int .i64 (predP ad (ad - x.ad) x.had x.x x.y).2]) ∧ Below w.heap.size w w' := by
  obtain ⟨a, had, p, q⟩ := x
  unfold lastV
  dsimp only at h h2 ⊢
  go_enter Tryz.func33, Tryz.ntmps33
  go_wp2_with (go_at_call 70; refine (vector_Predict _ _ _ _ _ _).mono ?_; rintro e w' ⟨rfl, rfl⟩)
  go_ret2
  exact ⟨rfl, (Below.refl _ _).alloc (Nat.le_refl _) _⟩
theorem macro_moved (fr to : Int) (w : World) (h1 : partB fr = true) (h2 : partB to = true) : Calls Tryz.prog 50 #[.int .i64 fr, .int .i64 to] w fun e w' => e = .returned (.string (bs (movP fr to))) ∧ w = w' := by
  have C1 := Lib.hid (fun W => vector_Diff fr to W h1 h2)
  have hd := diffP_range fr to
  have C2 := Lib.hid (fun W => vector_Put (diffP fr to) W hd.1 hd.2)
  unfold movP
  clear h1 h2 hd
  go_enter Tryz.func50, Tryz.ntmps50
  go_wp2_with (first
    | (go_at_call 92; refine (C1.out _).mono ?_; rintro e w' ⟨rfl, rfl⟩)
    | (go_at_call 93; refine (C2.out _).mono ?_; rintro e w' ⟨rfl, rfl⟩))
  go_ret
  exact ⟨rfl, rfl⟩
theorem ofV_V (k : Int) : ∃ a b d e, ofV k = [.bool a, .bool b, .bool (pV k), .bool d, .bool e] := by
  unfold ofV
  split
  · exact ⟨pI k, pQ k, pF k, pC k, rfl⟩
  · rename_i h
    have : pV k = false := by
      cases hv : pV k with
      | false => rfl
      | true =>
        simp [pV, inK] at hv h
        omega
    rw [this]; exact ⟨false, false, false, false, rfl⟩
set_option maxRecDepth 100000 in
set_option maxHeartbeats 2000000 in
theorem macro_After (m : MacM) (A : Option Addr) (n c : Nat) (w : World) : Calls Tryz.prog 21 #[macV m A n c] w fun e w' => e = .returned (lastV (aftP m)) ∧ Below w.heap.size w w' := by
  obtain ⟨a, b, d, e, hv⟩ := ofV_V m.kd
  have CO := Lib.hid (fun W => kind_Of m.kd W)
  rw [hv] at CO
  obtain ⟨ee, hee⟩ : ∃ ee, ofE m.kd = ee := ⟨_, rfl⟩
  rw [hee] at CO
  unfold macV lastV aftP
  obtain ⟨ad, kd, qu, x, y, pa, bl⟩ := m
  dsimp only at CO ⊢
  clear hv hee
  have hM : Blk (((w.alloc (.cells #[.int .i64 ad, .int .i64 kd, .int .i64 qu, .int .i64 x, .int .i64 y, .int .i64 pa, .slice A n c] 29)).alloc (.cells #[.int .i64 0, .bool false, .int .i64 0, .int .i64 0] 24)).alloc (.cells #[.int .i64 ad, .bool false, .int .i64 0, .int .i64 0] 24)) w.heap.size 29 #[.int .i64 ad, .int .i64 kd, .int .i64 qu, .int .i64 x, .int .i64 y, .int .i64 pa, .slice A n c] := ((Blk.new w _ _).alloc _).alloc _
  have hR : Blk (((w.alloc (.cells #[.int .i64 ad, .int .i64 kd, .int .i64 qu, .int .i64 x, .int .i64 y, .int .i64 pa, .slice A n c] 29)).alloc (.cells #[.int .i64 0, .bool false, .int .i64 0, .int .i64 0] 24)).alloc (.cells #[.int .i64 ad, .bool false, .int .i64 0, .int .i64 0] 24)) (w.heap.size + 1) 24 #[.int .i64 0, .bool false, .int .i64 0, .int .i64 0] := (blkAt (Blk.new _ _ _) (by simp)).alloc _
  have hL : Blk (((w.alloc (.cells #[.int .i64 ad, .int .i64 kd, .int .i64 qu, .int .i64 x, .int .i64 y, .int .i64 pa, .slice A n c] 29)).alloc (.cells #[.int .i64 0, .bool false, .int .i64 0, .int .i64 0] 24)).alloc (.cells #[.int .i64 ad, .bool false, .int .i64 0, .int .i64 0] 24)) (w.heap.size + 1 + 1) 24 #[.int .i64 ad, .bool false, .int .i64 0, .int .i64 0] := blkAt (Blk.new _ _ _) (by simp)
  have hb3 : Below w.heap.size w (((w.alloc (.cells #[.int .i64 ad, .int .i64 kd, .int .i64 qu, .int .i64 x, .int .i64 y, .int .i64 pa, .slice A n c] 29)).alloc (.cells #[.int .i64 0, .bool false, .int .i64 0, .int .i64 0] 24)).alloc (.cells #[.int .i64 ad, .bool false, .int .i64 0, .int .i64 0] 24)) := (((Below.refl _ _).alloc (Nat.le_refl _) _).alloc (by simp) _).alloc (by simp; omega) _
  have HM := Lib.hid hM; have HR := Lib.hid hR; have HL := Lib.hid hL; have HB3 := Lib.hid hb3
  clear hM hR hL hb3
  cases hp : pV kd with
  | false =>
    rw [hp] at CO
    simp only [Bool.false_eq_true, if_false]
    go_enter Tryz.func21, Tryz.ntmps21
    go_wp2_with (go_at_call 47; refine (CO.out _).mono ?_; rintro e1 w2 ⟨rfl, hb2⟩; have hbw : Below w.heap.size w (w2.alloc (.cells #[.bool a, .bool b, .bool false, .bool d, .bool e] 59)) := (HB3.out.trans (hb2.mono HB3.out.size)).alloc (Nat.le_trans HB3.out.size hb2.size) _; have zm := (HM.out.below hb2 HM.out.lt).alloc (.cells #[.bool a, .bool b, .bool false, .bool d, .bool e] 59); have zr := (HR.out.below hb2 HR.out.lt).alloc (.cells #[.bool a, .bool b, .bool false, .bool d, .bool e] 59); have zl := (HL.out.below hb2 HL.out.lt).alloc (.cells #[.bool a, .bool b, .bool false, .bool d, .bool e] 59); have m3 := zm.cell 3; have m4 := zm.cell 4; have l0 := zl.cell 0; have l1 := zl.cell 1; have l2 := zl.cell 2; have l3 := zl.cell 3; have k1 := zl.frozen 1; have k2 := zl.frozen 2; have k3 := zl.frozen 3; have r0 := zr.cell 0; have r1 := zr.cell 1; have r2 := zr.cell 2; have r3 := zr.cell 3; have q0 := zr.frozen 0; have q1 := zr.frozen 1; have q2 := zr.frozen 2; have q3 := zr.frozen 3; have ZL := Lib.hid zl; have ZR := Lib.hid zr; have HBW := Lib.hid hbw; clear hb2 zm zr zl hbw)
    have zf := (((ZR.out.set_ 0 (.int .i64 ad)).set_ 1 (.bool false)).set_ 2 (.int .i64 0)).set_ 3 (.int .i64 0)
    refine bodyPost_ret (results_cell_row (cs := #[.int .i64 ad, .bool false, .int .i64 0, .int .i64 0]) rfl _ _ (w.heap.size + 1) 24 (0, 0) _ rfl zf Tryz.underlying24 rfl (by kernel_rfl)) rfl ?_
    exact ⟨rfl, (((HBW.out.setCell (p := ⟨w.heap.size + 1, 0, none⟩) (by show w.heap.size ≤ _; simp) _).setCell (p := ⟨w.heap.size + 1, 1, none⟩) (by show w.heap.size ≤ _; simp) _).setCell (p := ⟨w.heap.size + 1, 2, none⟩) (by show w.heap.size ≤ _; simp) _).setCell (p := ⟨w.heap.size + 1, 3, none⟩) (by show w.heap.size ≤ _; simp) _⟩
  | true =>
    rw [hp] at CO
    simp only [if_true]
    go_enter Tryz.func21, Tryz.ntmps21
    go_wp2_with (go_at_call 47; refine (CO.out _).mono ?_; rintro e1 w2 ⟨rfl, hb2⟩; have hbw : Below w.heap.size w (w2.alloc (.cells #[.bool a, .bool b, .bool true, .bool d, .bool e] 59)) := (HB3.out.trans (hb2.mono HB3.out.size)).alloc (Nat.le_trans HB3.out.size hb2.size) _; have zm := (HM.out.below hb2 HM.out.lt).alloc (.cells #[.bool a, .bool b, .bool true, .bool d, .bool e] 59); have zr := (HR.out.below hb2 HR.out.lt).alloc (.cells #[.bool a, .bool b, .bool true, .bool d, .bool e] 59); have zl := (HL.out.below hb2 HL.out.lt).alloc (.cells #[.bool a, .bool b, .bool true, .bool d, .bool e] 59); have m3 := zm.cell 3; have m4 := zm.cell 4; have l0 := zl.cell 0; have l1 := zl.cell 1; have l2 := zl.cell 2; have l3 := zl.cell 3; have k1 := zl.frozen 1; have k2 := zl.frozen 2; have k3 := zl.frozen 3; have r0 := zr.cell 0; have r1 := zr.cell 1; have r2 := zr.cell 2; have r3 := zr.cell 3; have q0 := zr.frozen 0; have q1 := zr.frozen 1; have q2 := zr.frozen 2; have q3 := zr.frozen 3; have ZL := Lib.hid zl; have ZR := Lib.hid zr; have HBW := Lib.hid hbw; clear hb2 zm zr zl hbw)
    generalize w2.alloc (.cells #[.bool a, .bool b, .bool true, .bool d, .bool e] 59) = W3 at m3 m4 l0 l1 l2 l3 k1 k2 k3 r0 r1 r2 r3 q0 q1 q2 q3 ZL ZR HBW ⊢
    refine wp_region_treeN (fun w' => w'.cell? ⟨w.heap.size, 3, none⟩ = some (.int .i64 x) ∧ w'.cell? ⟨w.heap.size, 4, none⟩ = some (.int .i64 y)) 8 (.take 0 (.take 1 (.take 2 (.take 3 (.take 4 (.step 5 (.take 6 (.step 7 .done)))))))) (by kernel_rfl) (by kernel_rfl) (by simp only [Pln.out, Array.getD_eq_getD_getElem?, List.getElem?_toArray, List.getElem?_cons_zero, List.getElem?_cons_succ, Option.getD_some]; rfl) (by simp only [List.map_cons, List.map_nil]; rfl) (⟨m3, m4⟩) (fun PE hPE => ?_)
    refine tree_take (v := ?_) rfl (by rfl) ?_ ?_
    rotate_left
    · intro _ hSw; (try dsimp only at hSw); obtain ⟨s0, s1⟩ := hSw; go_simp; (try with_reducible rfl)
    simp only [List.setIfInBounds_toArray, List.set_cons_zero, List.set_cons_succ]
    refine tree_take (v := ?_) rfl (by rfl) ?_ ?_
    rotate_left
    · intro _ hSw; (try dsimp only at hSw); obtain ⟨s0, s1⟩ := hSw; go_simp; (try with_reducible rfl)
    simp only [List.setIfInBounds_toArray, List.set_cons_zero, List.set_cons_succ]
    refine tree_take (v := ?_) rfl (by rfl) ?_ ?_
    rotate_left
    · intro _ hSw; (try dsimp only at hSw); obtain ⟨s0, s1⟩ := hSw; go_simp; (try with_reducible rfl)
    simp only [List.setIfInBounds_toArray, List.set_cons_zero, List.set_cons_succ]
    refine tree_take (v := ?_) rfl (by rfl) ?_ ?_
    rotate_left
    · intro _ hSw; (try dsimp only at hSw); obtain ⟨s0, s1⟩ := hSw; go_simp; (try with_reducible rfl)
    simp only [List.setIfInBounds_toArray, List.set_cons_zero, List.set_cons_succ]
    refine tree_take (v := ?_) rfl (by rfl) ?_ ?_
    rotate_left
    · intro _ hSw; (try dsimp only at hSw); obtain ⟨s0, s1⟩ := hSw; go_simp; (try with_reducible rfl)
    simp only [List.setIfInBounds_toArray, List.set_cons_zero, List.set_cons_succ]
    refine tree_skip _ (w' := ?_) rfl (by rfl) ?_ ?_ ?_
    rotate_left 1
    · go_simp; (first | (with_reducible rfl) | (constructor <;> with_reducible rfl) | skip)
    · constructor <;> go_simp
    refine tree_take (v := ?_) rfl (by rfl) ?_ ?_
    rotate_left
    · intro _ hSw; (try dsimp only at hSw); obtain ⟨s0, s1⟩ := hSw; go_simp; (try with_reducible rfl)
    simp only [List.setIfInBounds_toArray, List.set_cons_zero, List.set_cons_succ]
    refine tree_skip _ (w' := ?_) rfl (by rfl) ?_ ?_ ?_
    rotate_left 1
    · go_simp; (first | (with_reducible rfl) | (constructor <;> with_reducible rfl) | skip)
    · constructor <;> go_simp
    refine hPE _ _ ?_
    clear hPE PE
    simp only [List.drop_succ_cons, List.drop_zero, List.drop_nil]
    go_wp2_with fail
    refine ⟨rfl, ?_⟩
    have ZL4 := Lib.hid (((ZL.out.set_ 1 (.bool true)).set_ 2 (.int .i64 x)).set_ 3 (.int .i64 y)).drew1
    have ZR4 := Lib.hid (((ZR.out.far (p := ⟨w.heap.size + 1 + 1, 1, none⟩) (by simp) (.bool true)).far (p := ⟨w.heap.size + 1 + 1, 2, none⟩) (by simp) (.int .i64 x)).far (p := ⟨w.heap.size + 1 + 1, 3, none⟩) (by simp) (.int .i64 y)).drew1
    have HBW4 := Lib.hid (((HBW.out.setCell (p := ⟨w.heap.size + 1 + 1, 1, none⟩) (by show w.heap.size ≤ _; simp; omega) (.bool true)).setCell (p := ⟨w.heap.size + 1 + 1, 2, none⟩) (by show w.heap.size ≤ _; simp; omega) (.int .i64 x)).setCell (p := ⟨w.heap.size + 1 + 1, 3, none⟩) (by show w.heap.size ≤ _; simp; omega) (.int .i64 y)).drew
    generalize (((W3.setCell ⟨w.heap.size + 1 + 1, 1, none⟩ (.bool true)).setCell ⟨w.heap.size + 1 + 1, 2, none⟩ (.int .i64 x)).setCell ⟨w.heap.size + 1 + 1, 3, none⟩ (.int .i64 y)).drew = W4 at ZL4 ZR4 HBW4 ⊢
    clear m3 m4 l0 l1 l2 l3 k1 k2 k3 r0 r1 r2 r3 q0 q1 q2 q3
    have l0 : W4.cell? ⟨w.heap.size + 1 + 1, 0, none⟩ = some (.int .i64 ad) := by rw [ZL4.out.cell]; rfl
    have l1 : W4.cell? ⟨w.heap.size + 1 + 1, 1, none⟩ = some (.bool true) := by rw [ZL4.out.cell]; rfl
    have l2 : W4.cell? ⟨w.heap.size + 1 + 1, 2, none⟩ = some (.int .i64 x) := by rw [ZL4.out.cell]; rfl
    have l3 : W4.cell? ⟨w.heap.size + 1 + 1, 3, none⟩ = some (.int .i64 y) := by rw [ZL4.out.cell]; rfl
    have r0 := ZR4.out.cell 0; have r1 := ZR4.out.cell 1; have r2 := ZR4.out.cell 2; have r3 := ZR4.out.cell 3
    have q0 := ZR4.out.frozen 0; have q1 := ZR4.out.frozen 1; have q2 := ZR4.out.frozen 2; have q3 := ZR4.out.frozen 3
    go_wp2_with fail
    have zf := (((ZR4.out.set_ 0 (.int .i64 ad)).set_ 1 (.bool true)).set_ 2 (.int .i64 x)).set_ 3 (.int .i64 y)
    refine bodyPost_ret (results_cell_row (cs := #[.int .i64 ad, .bool true, .int .i64 x, .int .i64 y]) rfl _ _ (w.heap.size + 1) 24 (0, 0) _ rfl zf Tryz.underlying24 rfl (by kernel_rfl)) rfl ?_
    exact ⟨rfl, (((HBW4.out.setCell (p := ⟨w.heap.size + 1, 0, none⟩) (by show w.heap.size ≤ _; simp) _).setCell (p := ⟨w.heap.size + 1, 1, none⟩) (by show w.heap.size ≤ _; simp) _).setCell (p := ⟨w.heap.size + 1, 2, none⟩) (by show w.heap.size ≤ _; simp) _).setCell (p := ⟨w.heap.size + 1, 3, none⟩) (by show w.heap.size ≤ _; simp) _⟩
end Go.Proofs.YtcojnigkgbmbmaaGreatDoor
namespace Go.Proofs.YtcojnigkgbmbmaaGreatDoor
open Go Go.RowKit
def hasB (p : Int) (k : Nat) : Bool := decide (1 ≤ p) && decide (p ≤ 63) && (p.toNat / 2 ^ (6 - k) % 2 == 1)
theorem and_bit : ∀ n : Nat, n < 64 → (bits .and .i64 (n : Int) 32 = if n / 32 % 2 = 1 then 32 else 0) ∧ (bits .and .i64 (n : Int) 16 = if n / 16 % 2 = 1 then 16 else 0) ∧ (bits .and .i64 (n : Int) 8 = if n / 8 % 2 = 1 then 8 else 0) ∧
    (bits .and .i64 (n : Int) 4 = if n / 4 % 2 = 1 then 4 else 0) ∧ (bits .and .i64 (n : Int) 2 = if n / 2 % 2 = 1 then 2 else 0) ∧ (bits .and .i64 (n : Int) 1 = if n / 1 % 2 = 1 then 1 else 0) := by decide +kernel
def cntJ (p : Int) : Nat → Nat
  | 0 => 0
  | j + 1 => cntJ p j + (if hasB p (j + 1) then 1 else 0)
theorem cntJ_6 (p : Int) : cntJ p 6 = cntP p := by
  unfold cntP
  by_cases h : 1 ≤ p ∧ p ≤ 63
  · rw [if_pos h]
    simp only [cntJ, hasB, decide_eq_true h.1, decide_eq_true h.2, Bool.true_and, Nat.reduceSub, Nat.reducePow, Nat.reduceAdd, beq_iff_eq, Nat.div_one]
    have e : ∀ q : Nat, (if q % 2 = 1 then 1 else 0) = q % 2 := fun q => by split <;> omega
    simp only [e]
    omega
  · rw [if_neg h]
    have e : ∀ k, hasB p k = false := fun k => by
      unfold hasB
      by_cases h1 : 1 ≤ p
      · rw [decide_eq_false (show ¬ p ≤ 63 by omega)]; simp
      · rw [decide_eq_false h1]; simp
    simp [cntJ, e]
theorem pattern_Has1 (p : Int) (w : World) : Calls Tryz.prog 104 #[.int .i64 p, .int .i64 1] w fun e w' => e = .returned (.bool (hasB p 1)) ∧ Below w.heap.size w w' := by
  unfold hasB
  by_cases h1 : 1 ≤ p
  · have d1 : decide (1 ≤ p) = true := decide_eq_true h1
    by_cases h2 : p ≤ 63
    · have d2 : decide (p ≤ 63) = true := decide_eq_true h2
      obtain ⟨n, rfl⟩ := Int.eq_ofNat_of_zero_le (by omega : 0 ≤ p)
      have hb := (and_bit n (by omega)).1
      rw [d1, d2, Int.toNat_natCast, show 2 ^ (6 - 1) = 32 by rfl]
      by_cases hq : n / 32 % 2 = 1
      · rw [if_pos hq] at hb
        have HQ := Lib.hid hq
        clear hq h1 h2
        go_enter Tryz.func104, Tryz.ntmps104
        go_wp2
        go_ret
        rw [HQ.out]
        exact ⟨rfl, (Below.refl _ _).alloc (Nat.le_refl _) _⟩
      · rw [if_neg hq] at hb
        have HQ := Lib.hid (show (n / 32 % 2 == 1) = false by simpa using hq)
        clear hq h1 h2
        go_enter Tryz.func104, Tryz.ntmps104
        go_wp2
        go_ret
        rw [HQ.out]
        exact ⟨rfl, (Below.refl _ _).alloc (Nat.le_refl _) _⟩
    · have d2 : decide (p ≤ 63) = false := decide_eq_false h2
      rw [d1, d2]
      clear h1 h2
      go_enter Tryz.func104, Tryz.ntmps104
      go_wp2
      go_ret
      exact ⟨rfl, (Below.refl _ _).alloc (Nat.le_refl _) _⟩
  · have d1 : decide (1 ≤ p) = false := decide_eq_false h1
    rw [d1]
    clear h1
    go_enter Tryz.func104, Tryz.ntmps104
    go_wp2
    go_ret
    exact ⟨rfl, (Below.refl _ _).alloc (Nat.le_refl _) _⟩
theorem pattern_Has2 (p : Int) (w : World) : Calls Tryz.prog 104 #[.int .i64 p, .int .i64 2] w fun e w' => e = .returned (.bool (hasB p 2)) ∧ Below w.heap.size w w' := by
  unfold hasB
  by_cases h1 : 1 ≤ p
  · have d1 : decide (1 ≤ p) = true := decide_eq_true h1
    by_cases h2 : p ≤ 63
    · have d2 : decide (p ≤ 63) = true := decide_eq_true h2
      obtain ⟨n, rfl⟩ := Int.eq_ofNat_of_zero_le (by omega : 0 ≤ p)
      have hb := (and_bit n (by omega)).2.1
      rw [d1, d2, Int.toNat_natCast, show 2 ^ (6 - 2) = 16 by rfl]
      by_cases hq : n / 16 % 2 = 1
      · rw [if_pos hq] at hb
        have HQ := Lib.hid hq
        clear hq h1 h2
        go_enter Tryz.func104, Tryz.ntmps104
        go_wp2
        go_ret
        rw [HQ.out]
        exact ⟨rfl, (Below.refl _ _).alloc (Nat.le_refl _) _⟩
      · rw [if_neg hq] at hb
        have HQ := Lib.hid (show (n / 16 % 2 == 1) = false by simpa using hq)
        clear hq h1 h2
        go_enter Tryz.func104, Tryz.ntmps104
        go_wp2
        go_ret
        rw [HQ.out]
        exact ⟨rfl, (Below.refl _ _).alloc (Nat.le_refl _) _⟩
    · have d2 : decide (p ≤ 63) = false := decide_eq_false h2
      rw [d1, d2]
      clear h1 h2
      go_enter Tryz.func104, Tryz.ntmps104
      go_wp2
      go_ret
      exact ⟨rfl, (Below.refl _ _).alloc (Nat.le_refl _) _⟩
  · have d1 : decide (1 ≤ p) = false := decide_eq_false h1
    rw [d1]
    clear h1
    go_enter Tryz.func104, Tryz.ntmps104
    go_wp2
    go_ret
    exact ⟨rfl, (Below.refl _ _).alloc (Nat.le_refl _) _⟩
theorem pattern_Has3 (p : Int) (w : World) : Calls Tryz.prog 104 #[.int .i64 p, .int .i64 3] w fun e w' => e = .returned (.bool (hasB p 3)) ∧ Below w.heap.size w w' := by
  unfold hasB
  by_cases h1 : 1 ≤ p
  · have d1 : decide (1 ≤ p) = true := decide_eq_true h1
    by_cases h2 : p ≤ 63
    · have d2 : decide (p ≤ 63) = true := decide_eq_true h2
      obtain ⟨n, rfl⟩ := Int.eq_ofNat_of_zero_le (by omega : 0 ≤ p)
      have hb := (and_bit n (by omega)).2.2.1
      rw [d1, d2, Int.toNat_natCast, show 2 ^ (6 - 3) = 8 by rfl]
      by_cases hq : n / 8 % 2 = 1
      · rw [if_pos hq] at hb
        have HQ := Lib.hid hq
        clear hq h1 h2
        go_enter Tryz.func104, Tryz.ntmps104
        go_wp2
        go_ret
        rw [HQ.out]
        exact ⟨rfl, (Below.refl _ _).alloc (Nat.le_refl _) _⟩
      · rw [if_neg hq] at hb
        have HQ := Lib.hid (show (n / 8 % 2 == 1) = false by simpa using hq)
        clear hq h1 h2
        go_enter Tryz.func104, Tryz.ntmps104
        go_wp2
        go_ret
        rw [HQ.out]
        exact ⟨rfl, (Below.refl _ _).alloc (Nat.le_refl _) _⟩
    · have d2 : decide (p ≤ 63) = false := decide_eq_false h2
      rw [d1, d2]
      clear h1 h2
      go_enter Tryz.func104, Tryz.ntmps104
      go_wp2
      go_ret
      exact ⟨rfl, (Below.refl _ _).alloc (Nat.le_refl _) _⟩
  · have d1 : decide (1 ≤ p) = false := decide_eq_false h1
    rw [d1]
    clear h1
    go_enter Tryz.func104, Tryz.ntmps104
    go_wp2
    go_ret
    exact ⟨rfl, (Below.refl _ _).alloc (Nat.le_refl _) _⟩
theorem pattern_Has4 (p : Int) (w : World) : Calls Tryz.prog 104 #[.int .i64 p, .int .i64 4] w fun e w' => e = .returned (.bool (hasB p 4)) ∧ Below w.heap.size w w' := by
  unfold hasB
  by_cases h1 : 1 ≤ p
  · have d1 : decide (1 ≤ p) = true := decide_eq_true h1
    by_cases h2 : p ≤ 63
    · have d2 : decide (p ≤ 63) = true := decide_eq_true h2
      obtain ⟨n, rfl⟩ := Int.eq_ofNat_of_zero_le (by omega : 0 ≤ p)
      have hb := (and_bit n (by omega)).2.2.2.1
      rw [d1, d2, Int.toNat_natCast, show 2 ^ (6 - 4) = 4 by rfl]
      by_cases hq : n / 4 % 2 = 1
      · rw [if_pos hq] at hb
        have HQ := Lib.hid hq
        clear hq h1 h2
        go_enter Tryz.func104, Tryz.ntmps104
        go_wp2
        go_ret
        rw [HQ.out]
        exact ⟨rfl, (Below.refl _ _).alloc (Nat.le_refl _) _⟩
      · rw [if_neg hq] at hb
        have HQ := Lib.hid (show (n / 4 % 2 == 1) = false by simpa using hq)
        clear hq h1 h2
        go_enter Tryz.func104, Tryz.ntmps104
        go_wp2
        go_ret
        rw [HQ.out]
        exact ⟨rfl, (Below.refl _ _).alloc (Nat.le_refl _) _⟩
    · have d2 : decide (p ≤ 63) = false := decide_eq_false h2
      rw [d1, d2]
      clear h1 h2
      go_enter Tryz.func104, Tryz.ntmps104
      go_wp2
      go_ret
      exact ⟨rfl, (Below.refl _ _).alloc (Nat.le_refl _) _⟩
  · have d1 : decide (1 ≤ p) = false := decide_eq_false h1
    rw [d1]
    clear h1
    go_enter Tryz.func104, Tryz.ntmps104
    go_wp2
    go_ret
    exact ⟨rfl, (Below.refl _ _).alloc (Nat.le_refl _) _⟩
theorem pattern_Has5 (p : Int) (w : World) : Calls Tryz.prog 104 #[.int .i64 p, .int .i64 5] w fun e w' => e = .returned (.bool (hasB p 5)) ∧ Below w.heap.size w w' := by
  unfold hasB
  by_cases h1 : 1 ≤ p
  · have d1 : decide (1 ≤ p) = true := decide_eq_true h1
    by_cases h2 : p ≤ 63
    · have d2 : decide (p ≤ 63) = true := decide_eq_true h2
      obtain ⟨n, rfl⟩ := Int.eq_ofNat_of_zero_le (by omega : 0 ≤ p)
      have hb := (and_bit n (by omega)).2.2.2.2.1
      rw [d1, d2, Int.toNat_natCast, show 2 ^ (6 - 5) = 2 by rfl]
      by_cases hq : n / 2 % 2 = 1
      · rw [if_pos hq] at hb
        have HQ := Lib.hid hq
        clear hq h1 h2
        go_enter Tryz.func104, Tryz.ntmps104
        go_wp2
        go_ret
        rw [HQ.out]
        exact ⟨rfl, (Below.refl _ _).alloc (Nat.le_refl _) _⟩
      · rw [if_neg hq] at hb
        have HQ := Lib.hid (show (n / 2 % 2 == 1) = false by simpa using hq)
        clear hq h1 h2
        go_enter Tryz.func104, Tryz.ntmps104
        go_wp2
        go_ret
        rw [HQ.out]
        exact ⟨rfl, (Below.refl _ _).alloc (Nat.le_refl _) _⟩
    · have d2 : decide (p ≤ 63) = false := decide_eq_false h2
      rw [d1, d2]
      clear h1 h2
      go_enter Tryz.func104, Tryz.ntmps104
      go_wp2
      go_ret
      exact ⟨rfl, (Below.refl _ _).alloc (Nat.le_refl _) _⟩
  · have d1 : decide (1 ≤ p) = false := decide_eq_false h1
    rw [d1]
    clear h1
    go_enter Tryz.func104, Tryz.ntmps104
    go_wp2
    go_ret
    exact ⟨rfl, (Below.refl _ _).alloc (Nat.le_refl _) _⟩
theorem pattern_Has6 (p : Int) (w : World) : Calls Tryz.prog 104 #[.int .i64 p, .int .i64 6] w fun e w' => e = .returned (.bool (hasB p 6)) ∧ Below w.heap.size w w' := by
  unfold hasB
  by_cases h1 : 1 ≤ p
  · have d1 : decide (1 ≤ p) = true := decide_eq_true h1
    by_cases h2 : p ≤ 63
    · have d2 : decide (p ≤ 63) = true := decide_eq_true h2
      obtain ⟨n, rfl⟩ := Int.eq_ofNat_of_zero_le (by omega : 0 ≤ p)
      have hb := (and_bit n (by omega)).2.2.2.2.2
      rw [d1, d2, Int.toNat_natCast, show 2 ^ (6 - 6) = 1 by rfl]
      by_cases hq : n / 1 % 2 = 1
      · rw [if_pos hq] at hb
        have HQ := Lib.hid hq
        clear hq h1 h2
        go_enter Tryz.func104, Tryz.ntmps104
        go_wp2
        go_ret
        rw [HQ.out]
        exact ⟨rfl, (Below.refl _ _).alloc (Nat.le_refl _) _⟩
      · rw [if_neg hq] at hb
        have HQ := Lib.hid (show (n / 1 % 2 == 1) = false by simpa using hq)
        clear hq h1 h2
        go_enter Tryz.func104, Tryz.ntmps104
        go_wp2
        go_ret
        rw [HQ.out]
        exact ⟨rfl, (Below.refl _ _).alloc (Nat.le_refl _) _⟩
    · have d2 : decide (p ≤ 63) = false := decide_eq_false h2
      rw [d1, d2]
      clear h1 h2
      go_enter Tryz.func104, Tryz.ntmps104
      go_wp2
      go_ret
      exact ⟨rfl, (Below.refl _ _).alloc (Nat.le_refl _) _⟩
  · have d1 : decide (1 ≤ p) = false := decide_eq_false h1
    rw [d1]
    clear h1
    go_enter Tryz.func104, Tryz.ntmps104
    go_wp2
    go_ret
    exact ⟨rfl, (Below.refl _ _).alloc (Nat.le_refl _) _⟩
theorem pattern_Has (p : Int) (j : Nat) (hj : j < 6) (w : World) : Calls Tryz.prog 104 #[.int .i64 p, .int .i64 ((j : Int) + 1)] w fun e w' => e = .returned (.bool (hasB p (j + 1))) ∧ Below w.heap.size w w' := by
  have h : j = 0 ∨ j = 1 ∨ j = 2 ∨ j = 3 ∨ j = 4 ∨ j = 5 := by omega
  rcases h with rfl | rfl | rfl | rfl | rfl | rfl
  · exact pattern_Has1 p w
  · exact pattern_Has2 p w
  · exact pattern_Has3 p w
  · exact pattern_Has4 p w
  · exact pattern_Has5 p w
  · exact pattern_Has6 p w
theorem pattern_Count (p : Int) (w : World) : Calls Tryz.prog 60 #[.int .i64 p] w fun e w' => e = .returned (.int .i64 (cntP p : Nat)) ∧ Below w.heap.size w w' := by
  rw [← cntJ_6]
  go_enter Tryz.func60, Tryz.ntmps60
  go_wp2_with fail
  go_loopg [2, 4] 6 (fun g v2 v4 => fun wr => ∃ j : Nat, j + g = 6 ∧ v2 = .int .i64 (cntJ p j : Nat) ∧ v4 = .int .i64 (j : Int) ∧ cntJ p j ≤ j ∧ Below w.heap.size w wr)
  case atStart => exact ⟨0, by omega, rfl, rfl, by simp [cntJ], Below.refl _ _⟩
  case round =>
    obtain ⟨j, hj, rfl, rfl, hle, hb⟩ := hrel
    cases gk with
    | zero =>
      obtain rfl : j = 6 := by omega
      have hlt : ¬ (((6 : Nat) : Int) < 6) := by omega
      go_wp2_with fail
      go_ret
      exact ⟨rfl, hb⟩
    | succ g =>
      have hlt : ((j : Int) < 6) := by omega
      have hj6 : j < 6 := by omega
      have CH := Lib.hid (pattern_Has p j hj6 wr)
      have hs : cntJ p (j + 1) = cntJ p j + (if hasB p (j + 1) then 1 else 0) := rfl
      have HB := Lib.hid hb
      obtain ⟨q, hq⟩ : ∃ q, cntJ p j = q := ⟨_, rfl⟩
      rw [hq] at hs hle ⊢
      clear hb hq
      by_cases hh : hasB p (j + 1) = true
      · rw [hh] at CH hs
        have HSS := Lib.hid hs
        clear hs hh
        go_wp2_with (go_at_call 104; refine CH.out.mono ?_; rintro e w2 ⟨rfl, hb2⟩; have HB2 := Lib.hid hb2; clear hb2)
        go_roundg g
        case measure => omega
        case rel => exact ⟨j + 1, by omega, by rw [HSS.out]; simp, by simp, by rw [HSS.out]; simp; omega, HB.out.trans (HB2.out.mono HB.out.size)⟩
      · have hh : hasB p (j + 1) = false := by simpa using hh
        rw [hh] at CH hs
        have HSS := Lib.hid hs
        clear hs hh
        go_wp2_with (go_at_call 104; refine CH.out.mono ?_; rintro e w2 ⟨rfl, hb2⟩; have HB2 := Lib.hid hb2; clear hb2)
        go_roundg g
        case measure => omega
        case rel => exact ⟨j + 1, by omega, by rw [HSS.out]; simp, by simp, by rw [HSS.out]; simp; omega, HB.out.trans (HB2.out.mono HB.out.size)⟩
end Go.Proofs.YtcojnigkgbmbmaaGreatDoor
