/- Act3a, Act3b, Act3c -/
import Derived.Test.YtklelheejopfmaaGreatK40
namespace Go.Proofs.YtklelheejopfmaaGreat
open Go Go.RowKit Go.Maps
attribute [local go_sem] Oper.semAt_some
set_option maxRecDepth 100000 in
set_option maxHeartbeats 4000000 in
theorem act_3a (w : World) (bm bt tb lb rm rt base : Nat) (c : Cfg) (B : Int) (L : List Ent) (h : AS bm bt tb lb rm rt base c B L w) (hB0 : 0 ≤ B) (hB : B + 1048576 ≤ 2 ^ 45) (id n a b cc d e0 f g : Int) (hw : (Lit.int .i64 id).wf = true) (hn : ¬ 0 < n) :
    Calls Tryz.prog 7 #[.pointer (some ⟨bm, 0, none⟩), .pointer (some ⟨rm, 0, none⟩), .agg #[.int .i64 3, .int .i64 id, .int .i64 n, .int .i64 a, .int .i64 b, .int .i64 cc, .int .i64 d, .int .i64 e0, .int .i64 f, .int .i64 g]] w (ActPost bm bt tb lb rm rt base c B w) := by
  have hb0 : Below w.heap.size w ((w.alloc (.cells #[.int .i64 3, .int .i64 id, .int .i64 n, .int .i64 a, .int .i64 b, .int .i64 cc, .int .i64 d, .int .i64 e0, .int .i64 f, .int .i64 g] 37)).alloc (.cells #[.int .i64 a, .int .i64 b, .int .i64 cc, .int .i64 d, .int .i64 e0, .int .i64 f, .int .i64 g] 35)) := ((Below.refl _ _).alloc (Nat.le_refl _) _).alloc (by simp) _
  have H := Lib.hid (h.later hb0)
  have HB0 := Lib.hid hb0
  have HBL := Lib.hid h.base_le
  have B5 := Lib.hid (show Blk ((w.alloc (.cells #[.int .i64 3, .int .i64 id, .int .i64 n, .int .i64 a, .int .i64 b, .int .i64 cc, .int .i64 d, .int .i64 e0, .int .i64 f, .int .i64 g] 37)).alloc (.cells #[.int .i64 a, .int .i64 b, .int .i64 cc, .int .i64 d, .int .i64 e0, .int .i64 f, .int .i64 g] 35)) w.heap.size 37 #[.int .i64 3, .int .i64 id, .int .i64 n, .int .i64 a, .int .i64 b, .int .i64 cc, .int .i64 d, .int .i64 e0, .int .i64 f, .int .i64 g] from (Blk.new w 37 #[.int .i64 3, .int .i64 id, .int .i64 n, .int .i64 a, .int .i64 b, .int .i64 cc, .int .i64 d, .int .i64 e0, .int .i64 f, .int .i64 g]).alloc _)
  have B6 := Lib.hid (show Blk ((w.alloc (.cells #[.int .i64 3, .int .i64 id, .int .i64 n, .int .i64 a, .int .i64 b, .int .i64 cc, .int .i64 d, .int .i64 e0, .int .i64 f, .int .i64 g] 37)).alloc (.cells #[.int .i64 a, .int .i64 b, .int .i64 cc, .int .i64 d, .int .i64 e0, .int .i64 f, .int .i64 g] 35)) (w.heap.size + 1) 35 #[.int .i64 a, .int .i64 b, .int .i64 cc, .int .i64 d, .int .i64 e0, .int .i64 f, .int .i64 g] from (Blk.new _ 35 #[.int .i64 a, .int .i64 b, .int .i64 cc, .int .i64 d, .int .i64 e0, .int .i64 f, .int .i64 g]).at_eq (World.size_alloc w _))
  have HBB := Lib.hid (And.intro hB0 hB)
  have d0 : decide (0 < n) = false := decide_eq_false hn
  clear h hb0 hB0 hB hn
  go_enter Tryz.func7, Tryz.ntmps7
  go_wp2_with fail
  have PA := H
  have PB := Lib.hid (show Below base w ((w.alloc (.cells #[.int .i64 3, .int .i64 id, .int .i64 n, .int .i64 a, .int .i64 b, .int .i64 cc, .int .i64 d, .int .i64 e0, .int .i64 f, .int .i64 g] 37)).alloc (.cells #[.int .i64 a, .int .i64 b, .int .i64 cc, .int .i64 d, .int .i64 e0, .int .i64 f, .int .i64 g] 35)) from HB0.out.mono HBL.out)
  have P5 := B5
  have P6 := B6
  clear B5 B6 H HB0
  generalize ((w.alloc (.cells #[.int .i64 3, .int .i64 id, .int .i64 n, .int .i64 a, .int .i64 b, .int .i64 cc, .int .i64 d, .int .i64 e0, .int .i64 f, .int .i64 g] 37)).alloc (.cells #[.int .i64 a, .int .i64 b, .int .i64 cc, .int .i64 d, .int .i64 e0, .int .i64 f, .int .i64 g] 35)) = Z at PA PB P5 P6 ⊢
  generalize w.heap.size = b5 at P5 P6 ⊢
  generalize b5 + 1 = b6 at P6 ⊢
  refine wp_region_plan2 (fun W => Blk W b5 37 #[.int .i64 3, .int .i64 id, .int .i64 n, .int .i64 a, .int .i64 b, .int .i64 cc, .int .i64 d, .int .i64 e0, .int .i64 f, .int .i64 g] ∧ Blk W b6 35 #[.int .i64 a, .int .i64 b, .int .i64 cc, .int .i64 d, .int .i64 e0, .int .i64 f, .int .i64 g]) 9 [(0, true), (1, true), (2, true), (3, true), (5, true), (6, true), (7, true), (8, true), (4, false)] (by kernel_rfl) (by kernel_rfl) (fun _ _ d _ _ h => by cases d <;> exact h) (by decide) (by simp only [List.map_cons, List.map_nil, Array.getD_eq_getD_getElem?, List.getElem?_toArray, List.getElem?_cons_zero, List.getElem?_cons_succ, Option.getD_some]; rfl) (by simp only [List.map_cons, List.map_nil]; rfl) (⟨P5.out.drew', P6.out.drew'⟩) (fun PE hPE => ?_)
  refine plan_take (v := ?_) rfl (by rfl) ?_ ?_
  rotate_left
  · intro _ hSw; (try dsimp only at hSw); go_simp; (try with_reducible rfl)
  simp only [List.setIfInBounds_toArray, List.set_cons_zero, List.set_cons_succ]
  refine plan_take (v := ?_) rfl (by rfl) ?_ ?_
  rotate_left
  · intro _ hSw; (try dsimp only at hSw); go_simp; (try with_reducible rfl)
  simp only [List.setIfInBounds_toArray, List.set_cons_zero, List.set_cons_succ]
  refine plan_take (v := ?_) rfl (by rfl) ?_ ?_
  rotate_left
  · intro _ hSw; (try dsimp only at hSw); have x1 := hSw.1.cell 1; go_simp; (try with_reducible rfl)
  simp only [List.setIfInBounds_toArray, List.set_cons_zero, List.set_cons_succ]
  refine plan_take (v := ?_) rfl (by rfl) ?_ ?_
  rotate_left
  · intro _ hSw; (try dsimp only at hSw); have x0 := hSw.2.cell 0; have x1 := hSw.2.cell 1; have x2 := hSw.2.cell 2; have x3 := hSw.2.cell 3; have x4 := hSw.2.cell 4; have x5 := hSw.2.cell 5; have x6 := hSw.2.cell 6; go_simp; (try with_reducible rfl)
  simp only [List.setIfInBounds_toArray, List.set_cons_zero, List.set_cons_succ]
  refine plan_take (v := ?_) rfl (by rfl) ?_ ?_
  rotate_left
  · intro _ hSw; (try dsimp only at hSw); go_simp; (try with_reducible rfl)
  simp only [List.setIfInBounds_toArray, List.set_cons_zero, List.set_cons_succ]
  refine plan_take (v := ?_) rfl (by rfl) ?_ ?_
  rotate_left
  · intro _ hSw; (try dsimp only at hSw); go_simp; (try with_reducible rfl)
  simp only [List.setIfInBounds_toArray, List.set_cons_zero, List.set_cons_succ]
  refine plan_take (v := ?_) rfl (by rfl) ?_ ?_
  rotate_left
  · intro _ hSw; (try dsimp only at hSw); have x1 := hSw.1.cell 1; go_simp; (try with_reducible rfl)
  simp only [List.setIfInBounds_toArray, List.set_cons_zero, List.set_cons_succ]
  refine plan_take (v := ?_) rfl (by rfl) ?_ ?_
  rotate_left
  · intro _ hSw; (try dsimp only at hSw); have x0 := hSw.2.cell 0; have x1 := hSw.2.cell 1; have x2 := hSw.2.cell 2; have x3 := hSw.2.cell 3; have x4 := hSw.2.cell 4; have x5 := hSw.2.cell 5; have x6 := hSw.2.cell 6; go_simp; (try with_reducible rfl)
  simp only [List.setIfInBounds_toArray, List.set_cons_zero, List.set_cons_succ]
  have H2 := Lib.hid (PA.out.later (Below.refl _ _).drew)
  have PZ := Lib.hid (show Below base w Z.drew from PB.out.drew)
  have D5 := Lib.hid (show Blk Z.drew b5 37 #[.int .i64 3, .int .i64 id, .int .i64 n, .int .i64 a, .int .i64 b, .int .i64 cc, .int .i64 d, .int .i64 e0, .int .i64 f, .int .i64 g] from P5.out.drew')
  have D6 := Lib.hid (show Blk Z.drew b6 35 #[.int .i64 a, .int .i64 b, .int .i64 cc, .int .i64 d, .int .i64 e0, .int .i64 f, .int .i64 g] from P6.out.drew')
  refine plan_call rfl (by rfl) (by first | (go_simp; done) | (go_simp; rfl)) (mod_See _ bm bt tb lb c B L H2.out.m id hw ⟨0, false, a, b, cc, d, e0, f, g⟩) ?_
  rintro e w1 ⟨rfl, hm1, ho1⟩
  have ho1' : Only [bt, tb, lb] _ _ := ho1.mono (by simp)
  have HO1 := Lib.hid ho1'
  have HM1 := Lib.hid hm1
  have HR1 := Lib.hid (H2.out.mid HO1.out).1
  refine ⟨_, rfl, ⟨HO1.out.blk D5.out (by have x1 := blk_ne D5.out H2.out.m.2.1.1 (by decide); have x2 := own_ne_blk H2.out.m.2.1.2.1 D5.out; have x3 := own_ne_blk H2.out.m.2.2.1 D5.out; simp [x1, x2.symm, x3.symm]), HO1.out.blk D6.out (by have x1 := blk_ne D6.out H2.out.m.2.1.1 (by decide); have x2 := own_ne_blk H2.out.m.2.1.2.1 D6.out; have x3 := own_ne_blk H2.out.m.2.2.1 D6.out; simp [x1, x2.symm, x3.symm])⟩, ?_⟩
  clear hm1 ho1 ho1'
  simp only [List.setIfInBounds_toArray, List.set_cons_zero, List.set_cons_succ]
  (refine hPE _ _ ?_; simp only [List.drop_succ_cons, List.drop_zero]; clear hPE PE)
  go_wp2_with (go_at_call 31; refine (ref29_See _ rm rt base c L HR1.out H2.out.kn H2.out.cfg H2.out.big id hw ⟨0, false, a, b, cc, d, e0, f, g⟩).mono ?_; rintro e w2 ⟨rfl, hr2, hf2⟩; have HFIN := Lib.hid (H2.out.both HO1.out HM1.out hr2 hf2 (q_onL H2.out.q (q_see H2.out.cfg ⟨0, false, a, b, cc, d, e0, f, g⟩)) (by have := HBB.out; omega) HBB.out.2); clear hr2 hf2)
  go_returns
  obtain ⟨f1, f2⟩ := HFIN.out
  exact ⟨rfl, f1, PZ.out.trans f2⟩
end Go.Proofs.YtklelheejopfmaaGreat
namespace Go.Proofs.YtklelheejopfmaaGreat
open Go Go.RowKit Go.Maps
attribute [local go_sem] Oper.semAt_some
set_option maxRecDepth 100000 in
set_option maxHeartbeats 4000000 in
theorem act_3b (w : World) (bm bt tb lb rm rt base : Nat) (c : Cfg) (B : Int) (L : List Ent) (h : AS bm bt tb lb rm rt base c B L w) (hB0 : 0 ≤ B) (hB : B + 1048576 ≤ 2 ^ 45) (id n a b cc d e0 f g : Int) (hw : (Lit.int .i64 id).wf = true) (hn : 0 < n) (hn2 : ¬ n < 1000) :
    Calls Tryz.prog 7 #[.pointer (some ⟨bm, 0, none⟩), .pointer (some ⟨rm, 0, none⟩), .agg #[.int .i64 3, .int .i64 id, .int .i64 n, .int .i64 a, .int .i64 b, .int .i64 cc, .int .i64 d, .int .i64 e0, .int .i64 f, .int .i64 g]] w (ActPost bm bt tb lb rm rt base c B w) := by
  have hb0 : Below w.heap.size w ((w.alloc (.cells #[.int .i64 3, .int .i64 id, .int .i64 n, .int .i64 a, .int .i64 b, .int .i64 cc, .int .i64 d, .int .i64 e0, .int .i64 f, .int .i64 g] 37)).alloc (.cells #[.int .i64 a, .int .i64 b, .int .i64 cc, .int .i64 d, .int .i64 e0, .int .i64 f, .int .i64 g] 35)) := ((Below.refl _ _).alloc (Nat.le_refl _) _).alloc (by simp) _
  have H := Lib.hid (h.later hb0)
  have HB0 := Lib.hid hb0
  have HBL := Lib.hid h.base_le
  have B5 := Lib.hid (show Blk ((w.alloc (.cells #[.int .i64 3, .int .i64 id, .int .i64 n, .int .i64 a, .int .i64 b, .int .i64 cc, .int .i64 d, .int .i64 e0, .int .i64 f, .int .i64 g] 37)).alloc (.cells #[.int .i64 a, .int .i64 b, .int .i64 cc, .int .i64 d, .int .i64 e0, .int .i64 f, .int .i64 g] 35)) w.heap.size 37 #[.int .i64 3, .int .i64 id, .int .i64 n, .int .i64 a, .int .i64 b, .int .i64 cc, .int .i64 d, .int .i64 e0, .int .i64 f, .int .i64 g] from (Blk.new w 37 #[.int .i64 3, .int .i64 id, .int .i64 n, .int .i64 a, .int .i64 b, .int .i64 cc, .int .i64 d, .int .i64 e0, .int .i64 f, .int .i64 g]).alloc _)
  have B6 := Lib.hid (show Blk ((w.alloc (.cells #[.int .i64 3, .int .i64 id, .int .i64 n, .int .i64 a, .int .i64 b, .int .i64 cc, .int .i64 d, .int .i64 e0, .int .i64 f, .int .i64 g] 37)).alloc (.cells #[.int .i64 a, .int .i64 b, .int .i64 cc, .int .i64 d, .int .i64 e0, .int .i64 f, .int .i64 g] 35)) (w.heap.size + 1) 35 #[.int .i64 a, .int .i64 b, .int .i64 cc, .int .i64 d, .int .i64 e0, .int .i64 f, .int .i64 g] from (Blk.new _ 35 #[.int .i64 a, .int .i64 b, .int .i64 cc, .int .i64 d, .int .i64 e0, .int .i64 f, .int .i64 g]).at_eq (World.size_alloc w _))
  have HBB := Lib.hid (And.intro hB0 hB)
  have d0 : decide (0 < n) = true := decide_eq_true hn
  have d1 : decide (n < 1000) = false := decide_eq_false hn2
  clear h hb0 hB0 hB hn hn2
  go_enter Tryz.func7, Tryz.ntmps7
  go_wp2_with fail
  have PA := H
  have PB := Lib.hid (show Below base w ((w.alloc (.cells #[.int .i64 3, .int .i64 id, .int .i64 n, .int .i64 a, .int .i64 b, .int .i64 cc, .int .i64 d, .int .i64 e0, .int .i64 f, .int .i64 g] 37)).alloc (.cells #[.int .i64 a, .int .i64 b, .int .i64 cc, .int .i64 d, .int .i64 e0, .int .i64 f, .int .i64 g] 35)) from HB0.out.mono HBL.out)
  have P5 := B5
  have P6 := B6
  clear B5 B6 H HB0
  generalize ((w.alloc (.cells #[.int .i64 3, .int .i64 id, .int .i64 n, .int .i64 a, .int .i64 b, .int .i64 cc, .int .i64 d, .int .i64 e0, .int .i64 f, .int .i64 g] 37)).alloc (.cells #[.int .i64 a, .int .i64 b, .int .i64 cc, .int .i64 d, .int .i64 e0, .int .i64 f, .int .i64 g] 35)) = Z at PA PB P5 P6 ⊢
  generalize w.heap.size = b5 at P5 P6 ⊢
  generalize b5 + 1 = b6 at P6 ⊢
  refine wp_region_plan2 (fun W => Blk W b5 37 #[.int .i64 3, .int .i64 id, .int .i64 n, .int .i64 a, .int .i64 b, .int .i64 cc, .int .i64 d, .int .i64 e0, .int .i64 f, .int .i64 g] ∧ Blk W b6 35 #[.int .i64 a, .int .i64 b, .int .i64 cc, .int .i64 d, .int .i64 e0, .int .i64 f, .int .i64 g]) 9 [(0, true), (1, true), (2, true), (3, true), (5, true), (6, true), (7, true), (8, true), (4, false)] (by kernel_rfl) (by kernel_rfl) (fun _ _ d _ _ h => by cases d <;> exact h) (by decide) (by simp only [List.map_cons, List.map_nil, Array.getD_eq_getD_getElem?, List.getElem?_toArray, List.getElem?_cons_zero, List.getElem?_cons_succ, Option.getD_some]; rfl) (by simp only [List.map_cons, List.map_nil]; rfl) (⟨P5.out.drew', P6.out.drew'⟩) (fun PE hPE => ?_)
  refine plan_take (v := ?_) rfl (by rfl) ?_ ?_
  rotate_left
  · intro _ hSw; (try dsimp only at hSw); go_simp; (try with_reducible rfl)
  simp only [List.setIfInBounds_toArray, List.set_cons_zero, List.set_cons_succ]
  refine plan_take (v := ?_) rfl (by rfl) ?_ ?_
  rotate_left
  · intro _ hSw; (try dsimp only at hSw); go_simp; (try with_reducible rfl)
  simp only [List.setIfInBounds_toArray, List.set_cons_zero, List.set_cons_succ]
  refine plan_take (v := ?_) rfl (by rfl) ?_ ?_
  rotate_left
  · intro _ hSw; (try dsimp only at hSw); have x1 := hSw.1.cell 1; go_simp; (try with_reducible rfl)
  simp only [List.setIfInBounds_toArray, List.set_cons_zero, List.set_cons_succ]
  refine plan_take (v := ?_) rfl (by rfl) ?_ ?_
  rotate_left
  · intro _ hSw; (try dsimp only at hSw); have x0 := hSw.2.cell 0; have x1 := hSw.2.cell 1; have x2 := hSw.2.cell 2; have x3 := hSw.2.cell 3; have x4 := hSw.2.cell 4; have x5 := hSw.2.cell 5; have x6 := hSw.2.cell 6; go_simp; (try with_reducible rfl)
  simp only [List.setIfInBounds_toArray, List.set_cons_zero, List.set_cons_succ]
  refine plan_take (v := ?_) rfl (by rfl) ?_ ?_
  rotate_left
  · intro _ hSw; (try dsimp only at hSw); go_simp; (try with_reducible rfl)
  simp only [List.setIfInBounds_toArray, List.set_cons_zero, List.set_cons_succ]
  refine plan_take (v := ?_) rfl (by rfl) ?_ ?_
  rotate_left
  · intro _ hSw; (try dsimp only at hSw); go_simp; (try with_reducible rfl)
  simp only [List.setIfInBounds_toArray, List.set_cons_zero, List.set_cons_succ]
  refine plan_take (v := ?_) rfl (by rfl) ?_ ?_
  rotate_left
  · intro _ hSw; (try dsimp only at hSw); have x1 := hSw.1.cell 1; go_simp; (try with_reducible rfl)
  simp only [List.setIfInBounds_toArray, List.set_cons_zero, List.set_cons_succ]
  refine plan_take (v := ?_) rfl (by rfl) ?_ ?_
  rotate_left
  · intro _ hSw; (try dsimp only at hSw); have x0 := hSw.2.cell 0; have x1 := hSw.2.cell 1; have x2 := hSw.2.cell 2; have x3 := hSw.2.cell 3; have x4 := hSw.2.cell 4; have x5 := hSw.2.cell 5; have x6 := hSw.2.cell 6; go_simp; (try with_reducible rfl)
  simp only [List.setIfInBounds_toArray, List.set_cons_zero, List.set_cons_succ]
  have H2 := Lib.hid (PA.out.later (Below.refl _ _).drew)
  have PZ := Lib.hid (show Below base w Z.drew from PB.out.drew)
  have D5 := Lib.hid (show Blk Z.drew b5 37 #[.int .i64 3, .int .i64 id, .int .i64 n, .int .i64 a, .int .i64 b, .int .i64 cc, .int .i64 d, .int .i64 e0, .int .i64 f, .int .i64 g] from P5.out.drew')
  have D6 := Lib.hid (show Blk Z.drew b6 35 #[.int .i64 a, .int .i64 b, .int .i64 cc, .int .i64 d, .int .i64 e0, .int .i64 f, .int .i64 g] from P6.out.drew')
  refine plan_call rfl (by rfl) (by first | (go_simp; done) | (go_simp; rfl)) (mod_See _ bm bt tb lb c B L H2.out.m id hw ⟨0, false, a, b, cc, d, e0, f, g⟩) ?_
  rintro e w1 ⟨rfl, hm1, ho1⟩
  have ho1' : Only [bt, tb, lb] _ _ := ho1.mono (by simp)
  have HO1 := Lib.hid ho1'
  have HM1 := Lib.hid hm1
  have HR1 := Lib.hid (H2.out.mid HO1.out).1
  refine ⟨_, rfl, ⟨HO1.out.blk D5.out (by have x1 := blk_ne D5.out H2.out.m.2.1.1 (by decide); have x2 := own_ne_blk H2.out.m.2.1.2.1 D5.out; have x3 := own_ne_blk H2.out.m.2.2.1 D5.out; simp [x1, x2.symm, x3.symm]), HO1.out.blk D6.out (by have x1 := blk_ne D6.out H2.out.m.2.1.1 (by decide); have x2 := own_ne_blk H2.out.m.2.1.2.1 D6.out; have x3 := own_ne_blk H2.out.m.2.2.1 D6.out; simp [x1, x2.symm, x3.symm])⟩, ?_⟩
  clear hm1 ho1 ho1'
  simp only [List.setIfInBounds_toArray, List.set_cons_zero, List.set_cons_succ]
  (refine hPE _ _ ?_; simp only [List.drop_succ_cons, List.drop_zero]; clear hPE PE)
  go_wp2_with (go_at_call 31; refine (ref29_See _ rm rt base c L HR1.out H2.out.kn H2.out.cfg H2.out.big id hw ⟨0, false, a, b, cc, d, e0, f, g⟩).mono ?_; rintro e w2 ⟨rfl, hr2, hf2⟩; have HFIN := Lib.hid (H2.out.both HO1.out HM1.out hr2 hf2 (q_onL H2.out.q (q_see H2.out.cfg ⟨0, false, a, b, cc, d, e0, f, g⟩)) (by have := HBB.out; omega) HBB.out.2); clear hr2 hf2)
  go_returns
  obtain ⟨f1, f2⟩ := HFIN.out
  exact ⟨rfl, f1, PZ.out.trans f2⟩
end Go.Proofs.YtklelheejopfmaaGreat
namespace Go.Proofs.YtklelheejopfmaaGreat
open Go Go.RowKit Go.Maps
attribute [local go_sem] Oper.semAt_some
theorem statF_seen (L : List Ent) (id : Int) : ∃ y0 y1 y2 y3 y4 y5 y6 : Int, (statF L id).1 = .agg #[.int .i64 y0, .int .i64 y1, .int .i64 y2, .int .i64 y3, .int .i64 y4, .int .i64 y5, .int .i64 y6] := by
  unfold statF
  cases atL L id with
  | none => exact ⟨_, _, _, _, _, _, _, rfl⟩
  | some x =>
    dsimp only
    split
    · exact ⟨_, _, _, _, _, _, _, rfl⟩
    · exact ⟨_, _, _, _, _, _, _, rfl⟩
set_option maxRecDepth 100000 in
set_option maxHeartbeats 4000000 in
theorem act_3c (w : World) (bm bt tb lb rm rt base : Nat) (c : Cfg) (B : Int) (L : List Ent) (h : AS bm bt tb lb rm rt base c B L w) (hB0 : 0 ≤ B) (hB : B + 1048576 ≤ 2 ^ 45) (id n a b cc d e0 f g : Int) (hw : (Lit.int .i64 id).wf = true) (hn : 0 < n) (hn2 : n < 1000) :
    Calls Tryz.prog 7 #[.pointer (some ⟨bm, 0, none⟩), .pointer (some ⟨rm, 0, none⟩), .agg #[.int .i64 3, .int .i64 id, .int .i64 n, .int .i64 a, .int .i64 b, .int .i64 cc, .int .i64 d, .int .i64 e0, .int .i64 f, .int .i64 g]] w (ActPost bm bt tb lb rm rt base c B w) := by
  have hb0 : Below w.heap.size w ((w.alloc (.cells #[.int .i64 3, .int .i64 id, .int .i64 n, .int .i64 a, .int .i64 b, .int .i64 cc, .int .i64 d, .int .i64 e0, .int .i64 f, .int .i64 g] 37)).alloc (.cells #[.int .i64 a, .int .i64 b, .int .i64 cc, .int .i64 d, .int .i64 e0, .int .i64 f, .int .i64 g] 35)) := ((Below.refl _ _).alloc (Nat.le_refl _) _).alloc (by simp) _
  have H := Lib.hid (h.later hb0)
  have HB0 := Lib.hid hb0
  have HBL := Lib.hid h.base_le
  have B5 := Lib.hid (show Blk ((w.alloc (.cells #[.int .i64 3, .int .i64 id, .int .i64 n, .int .i64 a, .int .i64 b, .int .i64 cc, .int .i64 d, .int .i64 e0, .int .i64 f, .int .i64 g] 37)).alloc (.cells #[.int .i64 a, .int .i64 b, .int .i64 cc, .int .i64 d, .int .i64 e0, .int .i64 f, .int .i64 g] 35)) w.heap.size 37 #[.int .i64 3, .int .i64 id, .int .i64 n, .int .i64 a, .int .i64 b, .int .i64 cc, .int .i64 d, .int .i64 e0, .int .i64 f, .int .i64 g] from (Blk.new w 37 #[.int .i64 3, .int .i64 id, .int .i64 n, .int .i64 a, .int .i64 b, .int .i64 cc, .int .i64 d, .int .i64 e0, .int .i64 f, .int .i64 g]).alloc _)
  have B6 := Lib.hid (show Blk ((w.alloc (.cells #[.int .i64 3, .int .i64 id, .int .i64 n, .int .i64 a, .int .i64 b, .int .i64 cc, .int .i64 d, .int .i64 e0, .int .i64 f, .int .i64 g] 37)).alloc (.cells #[.int .i64 a, .int .i64 b, .int .i64 cc, .int .i64 d, .int .i64 e0, .int .i64 f, .int .i64 g] 35)) (w.heap.size + 1) 35 #[.int .i64 a, .int .i64 b, .int .i64 cc, .int .i64 d, .int .i64 e0, .int .i64 f, .int .i64 g] from (Blk.new _ 35 #[.int .i64 a, .int .i64 b, .int .i64 cc, .int .i64 d, .int .i64 e0, .int .i64 f, .int .i64 g]).at_eq (World.size_alloc w _))
  have HBB := Lib.hid (And.intro hB0 hB)
  have d0 : decide (0 < n) = true := decide_eq_true hn
  have d1 : decide (n < 1000) = true := decide_eq_true hn2
  have H0 := Lib.hid h
  obtain ⟨y0, y1, y2, y3, y4, y5, y6, hst⟩ := statF_seen L id
  have CS := Lib.hid (ref29_Status _ rm rt base c L H.out.r id hw)
  rw [hst] at CS
  clear h hb0 hB0 hB hn hn2 hst
  go_enter Tryz.func7, Tryz.ntmps7
  repeat (first | (go_at_call 9; refine CS.out.mono ?_; rintro e w1 ⟨rfl, hb1⟩; have HN := Lib.hid (B6.out.below hb1 B6.out.lt).lt; have HB := Lib.hid ((HB0.out.trans (hb1.mono HB0.out.size)).alloc (Nat.le_of_lt (Nat.lt_of_succ_lt HN.out)) (.cells #[.int .i64 y0, .int .i64 y1, .int .i64 y2, .int .i64 y3, .int .i64 y4, .int .i64 y5, .int .i64 y6] 35)); have P5 := Lib.hid ((B5.out.below hb1 B5.out.lt).alloc (.cells #[.int .i64 y0, .int .i64 y1, .int .i64 y2, .int .i64 y3, .int .i64 y4, .int .i64 y5, .int .i64 y6] 35)); have P6 := Lib.hid ((B6.out.below hb1 B6.out.lt).alloc (.cells #[.int .i64 y0, .int .i64 y1, .int .i64 y2, .int .i64 y3, .int .i64 y4, .int .i64 y5, .int .i64 y6] 35)); have P16 := Lib.hid (Blk.new w1 35 #[.int .i64 y0, .int .i64 y1, .int .i64 y2, .int .i64 y3, .int .i64 y4, .int .i64 y5, .int .i64 y6]); clear hb1; go_simp) | go_values | go_skip | go_guarded | go_step | go_upon | go_back)
  clear B5 B6 H HB0 CS
  generalize w1.alloc (.cells #[.int .i64 y0, .int .i64 y1, .int .i64 y2, .int .i64 y3, .int .i64 y4, .int .i64 y5, .int .i64 y6] 35) = Z at HB P5 P6 P16 ⊢
  have N5 := Lib.hid (Nat.lt_succ_self w.heap.size)
  change Hid (w.heap.size < w.heap.size + 1) at N5
  generalize w1.heap.size = b16 at P16 HN ⊢
  generalize w.heap.size + 1 = b6 at P6 HN N5 ⊢
  have h6 := P6.out
  have k60 := h6.cell 0; have k61 := h6.cell 1; have k62 := h6.cell 2; have k63 := h6.cell 3; have k64 := h6.cell 4; have k65 := h6.cell 5; have k66 := h6.cell 6; have g60 := h6.frozen 0; have g61 := h6.frozen 1; have g62 := h6.frozen 2; have g63 := h6.frozen 3; have g64 := h6.frozen 4; have g65 := h6.frozen 5; have g66 := h6.frozen 6
  clear h6
  simp only [List.getElem?_toArray, List.getElem?_cons_zero, List.getElem?_cons_succ] at k60 k61 k62 k63 k64 k65 k66
  go_simp
  clear k60 k61 k62 k63 k64 k65 k66 g60 g61 g62 g63 g64 g65 g66
  have Q5 := Lib.hid (show Blk (((((((Z.setCell ⟨b6, 0, none⟩ (.int .i64 y0)).setCell ⟨b6, 1, none⟩ (.int .i64 y1)).setCell ⟨b6, 2, none⟩ (.int .i64 y2)).setCell ⟨b6, 3, none⟩ (.int .i64 y3)).setCell ⟨b6, 4, none⟩ (.int .i64 y4)).setCell ⟨b6, 5, none⟩ (.int .i64 y5)).setCell ⟨b6, 6, none⟩ (.int .i64 y6)) w.heap.size 37 #[.int .i64 3, .int .i64 id, .int .i64 n, .int .i64 a, .int .i64 b, .int .i64 cc, .int .i64 d, .int .i64 e0, .int .i64 f, .int .i64 g] from (((((((P5.out.far (p := ⟨b6, 0, none⟩) (Nat.ne_of_lt N5.out) _).far (p := ⟨b6, 1, none⟩) (Nat.ne_of_lt N5.out) _).far (p := ⟨b6, 2, none⟩) (Nat.ne_of_lt N5.out) _).far (p := ⟨b6, 3, none⟩) (Nat.ne_of_lt N5.out) _).far (p := ⟨b6, 4, none⟩) (Nat.ne_of_lt N5.out) _).far (p := ⟨b6, 5, none⟩) (Nat.ne_of_lt N5.out) _).far (p := ⟨b6, 6, none⟩) (Nat.ne_of_lt N5.out) _))
  have Q6 := Lib.hid (show Blk (((((((Z.setCell ⟨b6, 0, none⟩ (.int .i64 y0)).setCell ⟨b6, 1, none⟩ (.int .i64 y1)).setCell ⟨b6, 2, none⟩ (.int .i64 y2)).setCell ⟨b6, 3, none⟩ (.int .i64 y3)).setCell ⟨b6, 4, none⟩ (.int .i64 y4)).setCell ⟨b6, 5, none⟩ (.int .i64 y5)).setCell ⟨b6, 6, none⟩ (.int .i64 y6)) b6 35 #[.int .i64 y0, .int .i64 y1, .int .i64 y2, .int .i64 y3, .int .i64 y4, .int .i64 y5, .int .i64 y6] from (((((((P6.out.set_ 0 _).set_ 1 _).set_ 2 _).set_ 3 _).set_ 4 _).set_ 5 _).set_ 6 _))
  have Q16 := Lib.hid (show Blk (((((((Z.setCell ⟨b6, 0, none⟩ (.int .i64 y0)).setCell ⟨b6, 1, none⟩ (.int .i64 y1)).setCell ⟨b6, 2, none⟩ (.int .i64 y2)).setCell ⟨b6, 3, none⟩ (.int .i64 y3)).setCell ⟨b6, 4, none⟩ (.int .i64 y4)).setCell ⟨b6, 5, none⟩ (.int .i64 y5)).setCell ⟨b6, 6, none⟩ (.int .i64 y6)) b16 35 #[.int .i64 y0, .int .i64 y1, .int .i64 y2, .int .i64 y3, .int .i64 y4, .int .i64 y5, .int .i64 y6] from (((((((P16.out.far (p := ⟨b6, 0, none⟩) (Nat.ne_of_gt HN.out) _).far (p := ⟨b6, 1, none⟩) (Nat.ne_of_gt HN.out) _).far (p := ⟨b6, 2, none⟩) (Nat.ne_of_gt HN.out) _).far (p := ⟨b6, 3, none⟩) (Nat.ne_of_gt HN.out) _).far (p := ⟨b6, 4, none⟩) (Nat.ne_of_gt HN.out) _).far (p := ⟨b6, 5, none⟩) (Nat.ne_of_gt HN.out) _).far (p := ⟨b6, 6, none⟩) (Nat.ne_of_gt HN.out) _))
  have QB := Lib.hid (show Below w.heap.size w (((((((Z.setCell ⟨b6, 0, none⟩ (.int .i64 y0)).setCell ⟨b6, 1, none⟩ (.int .i64 y1)).setCell ⟨b6, 2, none⟩ (.int .i64 y2)).setCell ⟨b6, 3, none⟩ (.int .i64 y3)).setCell ⟨b6, 4, none⟩ (.int .i64 y4)).setCell ⟨b6, 5, none⟩ (.int .i64 y5)).setCell ⟨b6, 6, none⟩ (.int .i64 y6)) from (((((((HB.out.setCell (p := ⟨b6, 0, none⟩) (Nat.le_of_lt N5.out) _).setCell (p := ⟨b6, 1, none⟩) (Nat.le_of_lt N5.out) _).setCell (p := ⟨b6, 2, none⟩) (Nat.le_of_lt N5.out) _).setCell (p := ⟨b6, 3, none⟩) (Nat.le_of_lt N5.out) _).setCell (p := ⟨b6, 4, none⟩) (Nat.le_of_lt N5.out) _).setCell (p := ⟨b6, 5, none⟩) (Nat.le_of_lt N5.out) _).setCell (p := ⟨b6, 6, none⟩) (Nat.le_of_lt N5.out) _))
  clear P5 P6 P16 HB
  generalize (((((((Z.setCell ⟨b6, 0, none⟩ (.int .i64 y0)).setCell ⟨b6, 1, none⟩ (.int .i64 y1)).setCell ⟨b6, 2, none⟩ (.int .i64 y2)).setCell ⟨b6, 3, none⟩ (.int .i64 y3)).setCell ⟨b6, 4, none⟩ (.int .i64 y4)).setCell ⟨b6, 5, none⟩ (.int .i64 y5)).setCell ⟨b6, 6, none⟩ (.int .i64 y6)) = Z' at Q5 Q6 Q16 QB ⊢
  have N1 : w.heap.size ≠ b6 := Nat.ne_of_lt N5.out
  have N2 : b6 ≠ w.heap.size := N1.symm
  have N3 : b6 ≠ b16 := Nat.ne_of_lt HN.out
  have N4 : b16 ≠ b6 := N3.symm
  have h6 := Q6.out; have h5 := Q5.out; have h16 := Q16.out
  have k60 := h6.cell 0; have k61 := h6.cell 1; have k62 := h6.cell 2; have k63 := h6.cell 3; have k64 := h6.cell 4; have k65 := h6.cell 5; have k66 := h6.cell 6; have g60 := h6.frozen 0; have g61 := h6.frozen 1; have g62 := h6.frozen 2; have g63 := h6.frozen 3; have g64 := h6.frozen 4; have g65 := h6.frozen 5; have g66 := h6.frozen 6; have k51 := h5.cell 1; have k52 := h5.cell 2; have n6 := h16.cell 6
  clear h6 h5 h16
  simp only [List.getElem?_toArray, List.getElem?_cons_zero, List.getElem?_cons_succ] at k60 k61 k62 k63 k64 k65 k66 k51 k52 n6
  repeat (first | (fail) | go_values | go_skip | go_guarded | go_step | go_upon | go_back)
  clear k60 k61 k62 k63 k64 k65 k66 g60 g61 g62 g63 g64 g65 g66 k51 k52 n6 N1 N2 N3 N4
  have P5 := Lib.hid (show Blk ((((((Z'.setCell ⟨b6, 6, none⟩ (.int .i64 (wrap64 (y6 + n)))).setCell ⟨b6, 2, none⟩ (.int .i64 (wrap64 (y2 - n)))).setCell ⟨b6, 3, none⟩ (.int .i64 (wrap64 (wrap64 (y3 + wrap64 ((wrap64 (y6 + n)).tdiv 8)) - wrap64 (y6.tdiv 8))))).setCell ⟨b6, 1, none⟩ (.int .i64 (wrap64 (y1 + n.tmod 2)))).setCell ⟨b6, 4, none⟩ (.int .i64 (n.tmod 4))).setCell ⟨b6, 5, none⟩ (.int .i64 (wrap64 (y5 + n.tmod 3)))) w.heap.size 37 #[.int .i64 3, .int .i64 id, .int .i64 n, .int .i64 a, .int .i64 b, .int .i64 cc, .int .i64 d, .int .i64 e0, .int .i64 f, .int .i64 g] from ((((((Q5.out.far (p := ⟨b6, 6, none⟩) (Nat.ne_of_lt N5.out) _).far (p := ⟨b6, 2, none⟩) (Nat.ne_of_lt N5.out) _).far (p := ⟨b6, 3, none⟩) (Nat.ne_of_lt N5.out) _).far (p := ⟨b6, 1, none⟩) (Nat.ne_of_lt N5.out) _).far (p := ⟨b6, 4, none⟩) (Nat.ne_of_lt N5.out) _).far (p := ⟨b6, 5, none⟩) (Nat.ne_of_lt N5.out) _))
  have P6 := Lib.hid (show Blk ((((((Z'.setCell ⟨b6, 6, none⟩ (.int .i64 (wrap64 (y6 + n)))).setCell ⟨b6, 2, none⟩ (.int .i64 (wrap64 (y2 - n)))).setCell ⟨b6, 3, none⟩ (.int .i64 (wrap64 (wrap64 (y3 + wrap64 ((wrap64 (y6 + n)).tdiv 8)) - wrap64 (y6.tdiv 8))))).setCell ⟨b6, 1, none⟩ (.int .i64 (wrap64 (y1 + n.tmod 2)))).setCell ⟨b6, 4, none⟩ (.int .i64 (n.tmod 4))).setCell ⟨b6, 5, none⟩ (.int .i64 (wrap64 (y5 + n.tmod 3)))) b6 35 #[.int .i64 y0, .int .i64 (wrap64 (y1 + n.tmod 2)), .int .i64 (wrap64 (y2 - n)), .int .i64 (wrap64 (wrap64 (y3 + wrap64 ((wrap64 (y6 + n)).tdiv 8)) - wrap64 (y6.tdiv 8))), .int .i64 (n.tmod 4), .int .i64 (wrap64 (y5 + n.tmod 3)), .int .i64 (wrap64 (y6 + n))] from ((((((Q6.out.set_ 6 _).set_ 2 _).set_ 3 _).set_ 1 _).set_ 4 _).set_ 5 _))
  have HB := Lib.hid (show Below w.heap.size w ((((((Z'.setCell ⟨b6, 6, none⟩ (.int .i64 (wrap64 (y6 + n)))).setCell ⟨b6, 2, none⟩ (.int .i64 (wrap64 (y2 - n)))).setCell ⟨b6, 3, none⟩ (.int .i64 (wrap64 (wrap64 (y3 + wrap64 ((wrap64 (y6 + n)).tdiv 8)) - wrap64 (y6.tdiv 8))))).setCell ⟨b6, 1, none⟩ (.int .i64 (wrap64 (y1 + n.tmod 2)))).setCell ⟨b6, 4, none⟩ (.int .i64 (n.tmod 4))).setCell ⟨b6, 5, none⟩ (.int .i64 (wrap64 (y5 + n.tmod 3)))) from ((((((QB.out.setCell (p := ⟨b6, 6, none⟩) (Nat.le_of_lt N5.out) _).setCell (p := ⟨b6, 2, none⟩) (Nat.le_of_lt N5.out) _).setCell (p := ⟨b6, 3, none⟩) (Nat.le_of_lt N5.out) _).setCell (p := ⟨b6, 1, none⟩) (Nat.le_of_lt N5.out) _).setCell (p := ⟨b6, 4, none⟩) (Nat.le_of_lt N5.out) _).setCell (p := ⟨b6, 5, none⟩) (Nat.le_of_lt N5.out) _))
  clear Q5 Q6 Q16 QB
  generalize ((((((Z'.setCell ⟨b6, 6, none⟩ (.int .i64 (wrap64 (y6 + n)))).setCell ⟨b6, 2, none⟩ (.int .i64 (wrap64 (y2 - n)))).setCell ⟨b6, 3, none⟩ (.int .i64 (wrap64 (wrap64 (y3 + wrap64 ((wrap64 (y6 + n)).tdiv 8)) - wrap64 (y6.tdiv 8))))).setCell ⟨b6, 1, none⟩ (.int .i64 (wrap64 (y1 + n.tmod 2)))).setCell ⟨b6, 4, none⟩ (.int .i64 (n.tmod 4))).setCell ⟨b6, 5, none⟩ (.int .i64 (wrap64 (y5 + n.tmod 3)))) = Z at P5 P6 HB ⊢
  have PA := Lib.hid (H0.out.later HB.out)
  have PB := Lib.hid (HB.out.mono HBL.out)
  clear HB H0 N5 HN
  generalize (wrap64 (wrap64 (y3 + wrap64 ((wrap64 (y6 + n)).tdiv 8)) - wrap64 (y6.tdiv 8))) = v3 at P6
  generalize (wrap64 (y6 + n)) = v6 at P6
  generalize (wrap64 (y1 + n.tmod 2)) = v1 at P6
  generalize (wrap64 (y2 - n)) = v2 at P6
  generalize (n.tmod 4) = v4 at P6
  generalize (wrap64 (y5 + n.tmod 3)) = v5 at P6
  generalize w.heap.size = b5 at P5 ⊢
  refine wp_region_plan2 (fun W => Blk W b5 37 #[.int .i64 3, .int .i64 id, .int .i64 n, .int .i64 a, .int .i64 b, .int .i64 cc, .int .i64 d, .int .i64 e0, .int .i64 f, .int .i64 g] ∧ Blk W b6 35 #[.int .i64 y0, .int .i64 v1, .int .i64 v2, .int .i64 v3, .int .i64 v4, .int .i64 v5, .int .i64 v6]) 9 [(0, true), (1, true), (2, true), (3, true), (5, true), (6, true), (7, true), (8, true), (4, false)] (by kernel_rfl) (by kernel_rfl) (fun _ _ d _ _ h => by cases d <;> exact h) (by decide) (by simp only [List.map_cons, List.map_nil, Array.getD_eq_getD_getElem?, List.getElem?_toArray, List.getElem?_cons_zero, List.getElem?_cons_succ, Option.getD_some]; rfl) (by simp only [List.map_cons, List.map_nil]; rfl) (⟨P5.out.drew', P6.out.drew'⟩) (fun PE hPE => ?_)
  refine plan_take (v := ?_) rfl (by rfl) ?_ ?_
  rotate_left
  · intro _ hSw; (try dsimp only at hSw); go_simp; (try with_reducible rfl)
  simp only [List.setIfInBounds_toArray, List.set_cons_zero, List.set_cons_succ]
  refine plan_take (v := ?_) rfl (by rfl) ?_ ?_
  rotate_left
  · intro _ hSw; (try dsimp only at hSw); go_simp; (try with_reducible rfl)
  simp only [List.setIfInBounds_toArray, List.set_cons_zero, List.set_cons_succ]
  refine plan_take (v := ?_) rfl (by rfl) ?_ ?_
  rotate_left
  · intro _ hSw; (try dsimp only at hSw); have x1 := hSw.1.cell 1; go_simp; (try with_reducible rfl)
  simp only [List.setIfInBounds_toArray, List.set_cons_zero, List.set_cons_succ]
  refine plan_take (v := ?_) rfl (by rfl) ?_ ?_
  rotate_left
  · intro _ hSw; (try dsimp only at hSw); have x0 := hSw.2.cell 0; have x1 := hSw.2.cell 1; have x2 := hSw.2.cell 2; have x3 := hSw.2.cell 3; have x4 := hSw.2.cell 4; have x5 := hSw.2.cell 5; have x6 := hSw.2.cell 6; go_simp; (try with_reducible rfl)
  simp only [List.setIfInBounds_toArray, List.set_cons_zero, List.set_cons_succ]
  refine plan_take (v := ?_) rfl (by rfl) ?_ ?_
  rotate_left
  · intro _ hSw; (try dsimp only at hSw); go_simp; (try with_reducible rfl)
  simp only [List.setIfInBounds_toArray, List.set_cons_zero, List.set_cons_succ]
  refine plan_take (v := ?_) rfl (by rfl) ?_ ?_
  rotate_left
  · intro _ hSw; (try dsimp only at hSw); go_simp; (try with_reducible rfl)
  simp only [List.setIfInBounds_toArray, List.set_cons_zero, List.set_cons_succ]
  refine plan_take (v := ?_) rfl (by rfl) ?_ ?_
  rotate_left
  · intro _ hSw; (try dsimp only at hSw); have x1 := hSw.1.cell 1; go_simp; (try with_reducible rfl)
  simp only [List.setIfInBounds_toArray, List.set_cons_zero, List.set_cons_succ]
  refine plan_take (v := ?_) rfl (by rfl) ?_ ?_
  rotate_left
  · intro _ hSw; (try dsimp only at hSw); have x0 := hSw.2.cell 0; have x1 := hSw.2.cell 1; have x2 := hSw.2.cell 2; have x3 := hSw.2.cell 3; have x4 := hSw.2.cell 4; have x5 := hSw.2.cell 5; have x6 := hSw.2.cell 6; go_simp; (try with_reducible rfl)
  simp only [List.setIfInBounds_toArray, List.set_cons_zero, List.set_cons_succ]
  have H2 := Lib.hid (PA.out.later (Below.refl _ _).drew)
  have PZ := Lib.hid (show Below base w Z.drew from PB.out.drew)
  have D5 := Lib.hid (show Blk Z.drew b5 37 #[.int .i64 3, .int .i64 id, .int .i64 n, .int .i64 a, .int .i64 b, .int .i64 cc, .int .i64 d, .int .i64 e0, .int .i64 f, .int .i64 g] from P5.out.drew')
  have D6 := Lib.hid (show Blk Z.drew b6 35 #[.int .i64 y0, .int .i64 v1, .int .i64 v2, .int .i64 v3, .int .i64 v4, .int .i64 v5, .int .i64 v6] from P6.out.drew')
  refine plan_call rfl (by rfl) (by first | (go_simp; done) | (go_simp; rfl)) (mod_See _ bm bt tb lb c B L H2.out.m id hw ⟨0, false, y0, v1, v2, v3, v4, v5, v6⟩) ?_
  rintro e w1 ⟨rfl, hm1, ho1⟩
  have ho1' : Only [bt, tb, lb] _ _ := ho1.mono (by simp)
  have HO1 := Lib.hid ho1'
  have HM1 := Lib.hid hm1
  have HR1 := Lib.hid (H2.out.mid HO1.out).1
  refine ⟨_, rfl, ⟨HO1.out.blk D5.out (by have x1 := blk_ne D5.out H2.out.m.2.1.1 (by decide); have x2 := own_ne_blk H2.out.m.2.1.2.1 D5.out; have x3 := own_ne_blk H2.out.m.2.2.1 D5.out; simp [x1, x2.symm, x3.symm]), HO1.out.blk D6.out (by have x1 := blk_ne D6.out H2.out.m.2.1.1 (by decide); have x2 := own_ne_blk H2.out.m.2.1.2.1 D6.out; have x3 := own_ne_blk H2.out.m.2.2.1 D6.out; simp [x1, x2.symm, x3.symm])⟩, ?_⟩
  clear hm1 ho1 ho1'
  simp only [List.setIfInBounds_toArray, List.set_cons_zero, List.set_cons_succ]
  (refine hPE _ _ ?_; simp only [List.drop_succ_cons, List.drop_zero]; clear hPE PE)
  go_wp2_with (go_at_call 31; refine (ref29_See _ rm rt base c L HR1.out H2.out.kn H2.out.cfg H2.out.big id hw ⟨0, false, y0, v1, v2, v3, v4, v5, v6⟩).mono ?_; rintro e w2 ⟨rfl, hr2, hf2⟩; have HFIN := Lib.hid (H2.out.both HO1.out HM1.out hr2 hf2 (q_onL H2.out.q (q_see H2.out.cfg ⟨0, false, y0, v1, v2, v3, v4, v5, v6⟩)) (by have := HBB.out; omega) HBB.out.2); clear hr2 hf2)
  go_returns
  obtain ⟨f1, f2⟩ := HFIN.out
  exact ⟨rfl, f1, PZ.out.trans f2⟩
end Go.Proofs.YtklelheejopfmaaGreat
