/- layer 29: tame; the kit's Pick. -/
import Derived.Test.YtklelheejopfmaaOne29
namespace Go.Proofs.Ytklelheejopfmaa
open Go Go.RowKit Go.Maps
attribute [local go_sem] Oper.semAt_some
theorem pick_mod (x n : Int) (hn : 0 < n) : x % n = if x.tmod n < 0 then x.tmod n + n else x.tmod n := by
  have h1 := Int.emod_nonneg x (by omega : n ≠ 0)
  have h2 := Int.emod_lt_of_pos x hn
  rcases Int.lt_or_le x 0 with hx | hx
  · rw [Int.tmod_eq_emod]
    by_cases hd : n ∣ x
    · have : x % n = 0 := Int.emod_eq_zero_of_dvd hd
      simp [hd, this]
    · have hpos : x % n ≠ 0 := fun h => hd (Int.dvd_of_emod_eq_zero h)
      have : ¬ (0 ≤ x ∨ n ∣ x) := by omega
      rw [if_neg this]
      have hna : (n.natAbs : Int) = n := by omega
      rw [hna, if_pos (by omega)]
      omega
  · rw [Int.tmod_eq_emod_of_nonneg hx, if_neg (by omega)]
set_option maxHeartbeats 400000 in
theorem kit_Pick (x n : Int) (w : World) (hn0 : 0 < n) (hn : n ≤ 4611686018427387904) :
   Calls Try.prog 19 #[.int .i64 x, .int .i64 n] w fun e w' => e = .returned (.int .i64 (x % n)) ∧ w = w' := by
  have h : ¬ n ≤ 0 := by omega
  have h2 : -n < x.tmod n ∧ x.tmod n < n := by
    have := Int.tmod_lt_of_pos x hn0
    have := Int.lt_tmod_of_pos x hn0
    omega
  have Hp := Lib.hid (pick_mod x n hn0)
  by_cases hq : x.tmod n < 0
  · go_enter Try.func19, Try.ntmps19
    go_wp2
    go_ret
    exact ⟨ret_int (by rw [Hp.out, if_pos hq]), rfl⟩
  · go_enter Try.func19, Try.ntmps19
    go_wp2
    go_ret
    exact ⟨ret_int (by rw [Hp.out, if_neg (by omega)]), rfl⟩
def CfgV (c : Cfg) : Value := .agg #[.int .i64 c.sess, .int .i64 c.frames, .int .i64 c.quota, .int .i64 c.room, .int .i64 c.slots]
def TamePost (w : World) (e : Ending) (w' : World) : Prop := ∃ c : Cfg, CfgOk c ∧ e = .returned (.agg #[.int .i64 c.sess, .int .i64 c.frames, .int .i64 c.quota, .int .i64 c.room, .int .i64 c.slots]) ∧ Below w.heap.size w w'
set_option maxRecDepth 100000 in
set_option maxHeartbeats 2000000 in
theorem law_tame (w : World) (se fr qu ro sl : Int) : Calls Try.prog 16 #[.agg #[.int .i64 se, .int .i64 fr, .int .i64 qu, .int .i64 ro, .int .i64 sl]] w (TamePost w) := by
  obtain ⟨a, ha⟩ : ∃ a, fr % 7 = a := ⟨_, rfl⟩
  obtain ⟨b, hb⟩ : ∃ b, se % 4 = b := ⟨_, rfl⟩
  obtain ⟨q, hq⟩ : ∃ q, qu % (1 + a) = q := ⟨_, rfl⟩
  obtain ⟨r, hr⟩ : ∃ r, ro % 500 = r := ⟨_, rfl⟩
  obtain ⟨s, hs⟩ : ∃ s, sl % 4 = s := ⟨_, rfl⟩
  have ba : 0 ≤ a ∧ a < 7 := by omega
  have bb : 0 ≤ b ∧ b < 4 := by omega
  have bq : 0 ≤ q ∧ q < 1 + a := by rw [← hq]; exact ⟨Int.emod_nonneg _ (by omega), Int.emod_lt_of_pos _ (by omega)⟩
  have br : 0 ≤ r ∧ r < 500 := by omega
  have bs' : 0 ≤ s ∧ s < 4 := by omega
  have P1 := Lib.hid (fun W => by have h := kit_Pick fr 7 W (by decide) (by decide); rw [ha] at h; exact h)
  have P2 := Lib.hid (fun W => by have h := kit_Pick se 4 W (by decide) (by decide); rw [hb] at h; exact h)
  have P3 := Lib.hid (fun W => by have h := kit_Pick qu (1 + a) W (by omega) (by omega); rw [hq] at h; exact h)
  have P4 := Lib.hid (fun W => by have h := kit_Pick ro 500 W (by decide) (by decide); rw [hr] at h; exact h)
  have P5 := Lib.hid (fun W => by have h := kit_Pick sl 4 W (by decide) (by decide); rw [hs] at h; exact h)
  have w1 : wrap64 (2 + a) = 2 + a := wrap64_id (by omega) (by omega)
  have w2 : IntKind.i64.wrap (1 + b) = 1 + b := by rw [IntKind.wrap_i64]; omega
  have w3 : IntKind.i64.wrap (2 + a - 1) = 1 + a := by rw [IntKind.wrap_i64]; omega
  have w4 : IntKind.i64.wrap (2 + q) = 2 + q := by rw [IntKind.wrap_i64]; omega
  have w5 : IntKind.i64.wrap (1024 + r) = 1024 + r := by rw [IntKind.wrap_i64]; omega
  have w6 : IntKind.i64.wrap (1 + s) = 1 + s := by rw [IntKind.wrap_i64]; omega
  have HC := Lib.hid (show CfgOk ⟨1 + b, 2 + a, 2 + q, 1024 + r, 1 + s⟩ by unfold CfgOk; dsimp only; omega)
  have HB := Lib.hid (show Below w.heap.size w (((w.alloc (.cells #[.int .i64 se, .int .i64 fr, .int .i64 qu, .int .i64 ro, .int .i64 sl] 36)).alloc (.cells #[.int .i64 0, .int .i64 0, .int .i64 0, .int .i64 0, .int .i64 0] 36)).drew) from (((Below.refl _ _).alloc (Nat.le_refl _) _).alloc (by simp) _).drew)
  have HX := Lib.hid (show Blk (((w.alloc (.cells #[.int .i64 se, .int .i64 fr, .int .i64 qu, .int .i64 ro, .int .i64 sl] 36)).alloc (.cells #[.int .i64 0, .int .i64 0, .int .i64 0, .int .i64 0, .int .i64 0] 36)).drew) w.heap.size 36 #[.int .i64 se, .int .i64 fr, .int .i64 qu, .int .i64 ro, .int .i64 sl] from (Blk.new _ _ _).alloc _)
  have HY := Lib.hid (show Blk (((w.alloc (.cells #[.int .i64 se, .int .i64 fr, .int .i64 qu, .int .i64 ro, .int .i64 sl] 36)).alloc (.cells #[.int .i64 0, .int .i64 0, .int .i64 0, .int .i64 0, .int .i64 0] 36)).drew) (w.heap.size + 1) 36 #[.int .i64 0, .int .i64 0, .int .i64 0, .int .i64 0, .int .i64 0] from (Blk.new _ _ _).at_eq (World.size_alloc _ _))
  clear ha hb hq hr hs ba bb bq br bs'
  go_enter Try.func16, Try.ntmps16
  go_wp2_with (go_at_call 19; refine (P1.out _).mono ?_; rintro e w' ⟨rfl, rfl⟩)
  refine wp_region_plan2 (fun W => Blk W w.heap.size 36 #[.int .i64 se, .int .i64 fr, .int .i64 qu, .int .i64 ro, .int .i64 sl]) 19 [(0, true), (1, true), (4, true), (5, true), (6, true), (7, true), (8, true), (11, true), (12, true), (15, true), (16, true), (2, false), (3, true), (9, false), (10, true), (13, false), (14, true), (17, false), (18, true)] (by kernel_rfl) (by kernel_rfl) (fun _ _ d _ _ h => by cases d <;> exact h) (by decide) (by simp only [List.map_cons, List.map_nil, Array.getD_eq_getD_getElem?, List.getElem?_toArray, List.getElem?_cons_zero, List.getElem?_cons_succ, Option.getD_some]; rfl) (by simp only [List.map_cons, List.map_nil]; rfl) (HX.out) (fun PE hPE => ?_)
  refine plan_take (v := ?_) rfl (by rfl) ?_ ?_
  rotate_left
  · intro _ hSw; (try dsimp only at hSw); have x0 := hSw.cell 0; have x2 := hSw.cell 2; have x3 := hSw.cell 3; have x4 := hSw.cell 4; go_simp; (try with_reducible rfl)
  simp only [List.setIfInBounds_toArray, List.set_cons_zero, List.set_cons_succ]
  refine plan_take (v := ?_) rfl (by rfl) ?_ ?_
  rotate_left
  · intro _ hSw; (try dsimp only at hSw); have x0 := hSw.cell 0; have x2 := hSw.cell 2; have x3 := hSw.cell 3; have x4 := hSw.cell 4; go_simp; (try with_reducible rfl)
  simp only [List.setIfInBounds_toArray, List.set_cons_zero, List.set_cons_succ]
  refine plan_take (v := ?_) rfl (by rfl) ?_ ?_
  rotate_left
  · intro _ hSw; (try dsimp only at hSw); have x0 := hSw.cell 0; have x2 := hSw.cell 2; have x3 := hSw.cell 3; have x4 := hSw.cell 4; go_simp; (try with_reducible rfl)
  simp only [List.setIfInBounds_toArray, List.set_cons_zero, List.set_cons_succ]
  refine plan_take (v := ?_) rfl (by rfl) ?_ ?_
  rotate_left
  · intro _ hSw; (try dsimp only at hSw); have x0 := hSw.cell 0; have x2 := hSw.cell 2; have x3 := hSw.cell 3; have x4 := hSw.cell 4; go_simp; (try with_reducible rfl)
  simp only [List.setIfInBounds_toArray, List.set_cons_zero, List.set_cons_succ]
  refine plan_take (v := ?_) rfl (by rfl) ?_ ?_
  rotate_left
  · intro _ hSw; (try dsimp only at hSw); have x0 := hSw.cell 0; have x2 := hSw.cell 2; have x3 := hSw.cell 3; have x4 := hSw.cell 4; go_simp; (try with_reducible rfl)
  simp only [List.setIfInBounds_toArray, List.set_cons_zero, List.set_cons_succ]
  refine plan_take (v := ?_) rfl (by rfl) ?_ ?_
  rotate_left
  · intro _ hSw; (try dsimp only at hSw); have x0 := hSw.cell 0; have x2 := hSw.cell 2; have x3 := hSw.cell 3; have x4 := hSw.cell 4; go_simp; (try with_reducible rfl)
  simp only [List.setIfInBounds_toArray, List.set_cons_zero, List.set_cons_succ]
  refine plan_take (v := ?_) rfl (by rfl) ?_ ?_
  rotate_left
  · intro _ hSw; (try dsimp only at hSw); have x0 := hSw.cell 0; have x2 := hSw.cell 2; have x3 := hSw.cell 3; have x4 := hSw.cell 4; go_simp; (try with_reducible rfl)
  simp only [List.setIfInBounds_toArray, List.set_cons_zero, List.set_cons_succ]
  refine plan_take (v := ?_) rfl (by rfl) ?_ ?_
  rotate_left
  · intro _ hSw; (try dsimp only at hSw); have x0 := hSw.cell 0; have x2 := hSw.cell 2; have x3 := hSw.cell 3; have x4 := hSw.cell 4; go_simp; (try with_reducible rfl)
  simp only [List.setIfInBounds_toArray, List.set_cons_zero, List.set_cons_succ]
  refine plan_take (v := ?_) rfl (by rfl) ?_ ?_
  rotate_left
  · intro _ hSw; (try dsimp only at hSw); have x0 := hSw.cell 0; have x2 := hSw.cell 2; have x3 := hSw.cell 3; have x4 := hSw.cell 4; go_simp; (try with_reducible rfl)
  simp only [List.setIfInBounds_toArray, List.set_cons_zero, List.set_cons_succ]
  refine plan_take (v := ?_) rfl (by rfl) ?_ ?_
  rotate_left
  · intro _ hSw; (try dsimp only at hSw); have x0 := hSw.cell 0; have x2 := hSw.cell 2; have x3 := hSw.cell 3; have x4 := hSw.cell 4; go_simp; (try with_reducible rfl)
  simp only [List.setIfInBounds_toArray, List.set_cons_zero, List.set_cons_succ]
  refine plan_take (v := ?_) rfl (by rfl) ?_ ?_
  rotate_left
  · intro _ hSw; (try dsimp only at hSw); have x0 := hSw.cell 0; have x2 := hSw.cell 2; have x3 := hSw.cell 3; have x4 := hSw.cell 4; go_simp; (try with_reducible rfl)
  simp only [List.setIfInBounds_toArray, List.set_cons_zero, List.set_cons_succ]
  refine plan_call rfl (by rfl) (by first | (go_simp; done) | (go_simp; rfl)) (P2.out _) ?_
  rintro e w4 ⟨rfl, rfl⟩
  refine ⟨_, rfl, HX.out, ?_⟩
  simp only [List.setIfInBounds_toArray, List.set_cons_zero, List.set_cons_succ]
  refine plan_take (v := ?_) rfl (by rfl) ?_ ?_
  rotate_left
  · intro _ hSw; (try dsimp only at hSw); go_simp; (try with_reducible rfl)
  simp only [List.setIfInBounds_toArray, List.set_cons_zero, List.set_cons_succ]
  refine plan_call rfl (by rfl) (by first | (go_simp; done) | (go_simp; rfl)) (P3.out _) ?_
  rintro e w4 ⟨rfl, rfl⟩
  refine ⟨_, rfl, HX.out, ?_⟩
  simp only [List.setIfInBounds_toArray, List.set_cons_zero, List.set_cons_succ]
  refine plan_take (v := ?_) rfl (by rfl) ?_ ?_
  rotate_left
  · intro _ hSw; (try dsimp only at hSw); go_simp; (try with_reducible rfl)
  simp only [List.setIfInBounds_toArray, List.set_cons_zero, List.set_cons_succ]
  refine plan_call rfl (by rfl) (by first | (go_simp; done) | (go_simp; rfl)) (P4.out _) ?_
  rintro e w4 ⟨rfl, rfl⟩
  refine ⟨_, rfl, HX.out, ?_⟩
  simp only [List.setIfInBounds_toArray, List.set_cons_zero, List.set_cons_succ]
  refine plan_take (v := ?_) rfl (by rfl) ?_ ?_
  rotate_left
  · intro _ hSw; (try dsimp only at hSw); go_simp; (try with_reducible rfl)
  simp only [List.setIfInBounds_toArray, List.set_cons_zero, List.set_cons_succ]
  refine plan_call rfl (by rfl) (by first | (go_simp; done) | (go_simp; rfl)) (P5.out _) ?_
  rintro e w4 ⟨rfl, rfl⟩
  refine ⟨_, rfl, HX.out, ?_⟩
  simp only [List.setIfInBounds_toArray, List.set_cons_zero, List.set_cons_succ]
  refine plan_take (v := ?_) rfl (by rfl) ?_ ?_
  rotate_left
  · intro _ hSw; (try dsimp only at hSw); go_simp; (try with_reducible rfl)
  simp only [List.setIfInBounds_toArray, List.set_cons_zero, List.set_cons_succ]
  (refine hPE _ _ ?_; simp only [List.drop_succ_cons, List.drop_zero]; clear hPE PE)
  generalize ((w.alloc (.cells #[.int .i64 se, .int .i64 fr, .int .i64 qu, .int .i64 ro, .int .i64 sl] 36)).alloc (.cells #[.int .i64 0, .int .i64 0, .int .i64 0, .int .i64 0, .int .i64 0] 36)).drew = V at HB HX HY ⊢
  have y0 := HY.out.cell 0; have y1 := HY.out.cell 1; have y2 := HY.out.cell 2; have y3 := HY.out.cell 3; have y4 := HY.out.cell 4
  have f0 := HY.out.frozen 0; have f1 := HY.out.frozen 1; have f2 := HY.out.frozen 2; have f3 := HY.out.frozen 3; have f4 := HY.out.frozen 4
  go_wp2_with fail
  have hZ := ((((HY.out.set_ 0 (.int .i64 (1 + b))).set_ 1 (.int .i64 (2 + a))).set_ 2 (.int .i64 (2 + q))).set_ 3 (.int .i64 (1024 + r))).set_ 4 (.int .i64 (1 + s))
  have z0 := hZ.cell 0; have z1 := hZ.cell 1; have z2 := hZ.cell 2; have z3 := hZ.cell 3; have z4 := hZ.cell 4
  refine bodyPost_ret (by simp [results, Try.results16, go_sem, z0, z1, z2, z3, z4]; try rfl) rfl ?_
  exact ⟨⟨1 + b, 2 + a, 2 + q, 1024 + r, 1 + s⟩, HC.out, rfl, ((((HB.out.setCell (p := ⟨w.heap.size + 1, 0, none⟩) (Nat.le_succ _) _).setCell (p := ⟨w.heap.size + 1, 1, none⟩) (Nat.le_succ _) _).setCell (p := ⟨w.heap.size + 1, 2, none⟩) (Nat.le_succ _) _).setCell (p := ⟨w.heap.size + 1, 3, none⟩) (Nat.le_succ _) _).setCell (p := ⟨w.heap.size + 1, 4, none⟩) (Nat.le_succ _) _⟩
end Go.Proofs.Ytklelheejopfmaa
