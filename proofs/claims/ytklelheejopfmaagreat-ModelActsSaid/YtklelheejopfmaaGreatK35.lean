/- Se29pb0 -/
import Derived.Test.YtklelheejopfmaaGreatK29
namespace Go.Proofs.YtklelheejopfmaaGreat
open Go Go.RowKit Go.Maps
attribute [local go_sem] Oper.semAt_some
set_option maxRecDepth 100000 in
set_option maxHeartbeats 4000000 in
theorem see29_pb0 (w : World) (rm rt base : Nat) (c : Cfg) (L : List Ent) (h : RAt w rm rt base c L) (i : Nat) (ca : Int) (en : Bool) (cz q l f fr p g sc sq sl sf sfr sp sg : Int) (hL : L[i]? = some (0, ⟨ca, en, cz, q, l, f, fr, p, g⟩)) (hw : (Lit.int .i64 ((i : Int) + 1)).wf = true) (h8 : wrap64 (8 * ca) = 8 * ca) (hw1 : g ≤ sg ∧ sg ≤ 8 * ca) (hw2 : 0 ≤ sq ∧ sq ≤ c.slots) (hw3 : 0 ≤ sfr ∧ sfr ≤ c.quota) (hlt : ¬ sp < p) (hcz : cz ≠ 0) (hsc : sc = cz) (lw fw d8 : Int) (e2 : wrap64 (8 * ca - sg) = lw) (e3 : sg.tdiv 8 = d8) (e4 : wrap64 d8 = d8) (e5 : wrap64 (c.room - ca) = c.room - ca) (e6 : wrap64 (c.room - ca + d8) = fw) (hne : lw ≠ sl) :
    Calls Tryz.prog 31 #[.pointer (some ⟨rm, 0, none⟩), .int .i64 ((i : Int) + 1), .agg #[.int .i64 sc, .int .i64 sq, .int .i64 sl, .int .i64 sf, .int .i64 sfr, .int .i64 sp, .int .i64 sg]] w fun e w' => e = .returned (.int .i64 2) ∧ RAt w' rm rt base c L ∧ RFq T29 base w w' := by
  have hi := (ix_get hL).1
  have hll : L.length ≤ 2147483647 := by obtain ⟨_, _, _, ⟨_, _, _, t3, _⟩, _⟩ := h; exact t3
  obtain ⟨i0, i1, wi, wi2⟩ := ix_facts hi hll
  have h8' := wrap_same h8
  have hy : whyF L ((i : Int) + 1) = 0 := by
    unfold whyF
    rw [atL_nat hi]
    have hx := (ix_get hL).2
    rw [hx]
  have hB0 : Below w.heap.size w (w.alloc (.cells #[.int .i64 sc, .int .i64 sq, .int .i64 sl, .int .i64 sf, .int .i64 sfr, .int .i64 sp, .int .i64 sg] 35)) := (Below.refl _ _).alloc (Nat.le_refl _) _
  have CR := Lib.hid (ref29_refuses _ rm rt base c L (h.later hB0) ((i : Int) + 1) hw)
  rw [hy] at CR
  have H := Lib.hid h
  have HL := Lib.hid hL
  have HB0 := Lib.hid hB0
  have B5 := Lib.hid (Blk.new w 35 #[.int .i64 sc, .int .i64 sq, .int .i64 sl, .int .i64 sf, .int .i64 sfr, .int .i64 sp, .int .i64 sg])
  have HW1 := Lib.hid (show decide (g ≤ sg ∧ sg ≤ 8 * ca) = true from decide_eq_true hw1)
  have HW2 := Lib.hid (show decide (0 ≤ sq ∧ sq ≤ c.slots) = true from decide_eq_true hw2)
  have HW3 := Lib.hid (show decide (0 ≤ sfr ∧ sfr ≤ c.quota) = true from decide_eq_true hw3)
  have d4 : decide (sp < p) = false := decide_eq_false hlt
  have HA := Lib.hid (And.intro e2 (And.intro e3 (And.intro e4 (And.intro e5 e6))))
  have HE8 := Lib.hid h8
  have d5 : (cz != 0) = true := bne_iff_ne.2 hcz
  have d6 : (sc != cz) = false := by rw [hsc]; exact bne_self_eq_false _
  have d7 : (lw == sl) = false := beq_eq_false_iff_ne.2 hne
  clear h hL hw hi hll hy hB0 h8 hw1 hw2 hw3 hlt e2 e3 e4 e5 e6 hcz hsc hne
  go_enter Tryz.func31, Tryz.ntmps31
  go_wp2_with (go_at_call 52; refine CR.out.mono ?_; rintro e w1 ⟨rfl, hb1⟩; have HB1 := Lib.hid (HB0.out.trans (hb1.mono HB0.out.size)); have HR1 := Lib.hid (H.out.later HB1.out); have HB5 := Lib.hid (B5.out.below hb1 B5.out.lt); obtain ⟨gg, cap, c6, hgg, hcell, hfz⟩ := HR1.out.cells HL.out; have k0 := hcell 0 (by decide); have k1 := hcell 1 (by decide); have k2 := hcell 2 (by decide); have k3 := hcell 3 (by decide); have k4 := hcell 4 (by decide); have k5 := hcell 5 (by decide); have k6 := hcell 6 (by decide); have k7 := hcell 7 (by decide); have k8 := hcell 8 (by decide); simp only [knC] at k0 k1 k2 k3 k4 k5 k6 k7 k8; have k0' : w1.cell? ⟨gg, i * 9, none⟩ = some (.int .i64 ca) := k0; clear hb1 hcell)
  have hB1 : Below w1.heap.size w1 ((w1.alloc (.cells #[.int .i64 ca, .bool en, .int .i64 cz, .int .i64 q, .int .i64 l, .int .i64 f, .int .i64 fr, .int .i64 p, .int .i64 g] 74)).alloc (.cells #[.int .i64 cz, .int .i64 q, .int .i64 l, .int .i64 f, .int .i64 fr, .int .i64 p, .int .i64 g] 35)) := ((Below.refl _ _).alloc (Nat.le_refl _) _).alloc (by simp) _
  have HBX := Lib.hid (show Below w.heap.size w ((w1.alloc (.cells #[.int .i64 ca, .bool en, .int .i64 cz, .int .i64 q, .int .i64 l, .int .i64 f, .int .i64 fr, .int .i64 p, .int .i64 g] 74)).alloc (.cells #[.int .i64 cz, .int .i64 q, .int .i64 l, .int .i64 f, .int .i64 fr, .int .i64 p, .int .i64 g] 35)).drew from (HB1.out.trans (hB1.mono HB1.out.size)).drew)
  have Q5 := Lib.hid (show Blk ((w1.alloc (.cells #[.int .i64 ca, .bool en, .int .i64 cz, .int .i64 q, .int .i64 l, .int .i64 f, .int .i64 fr, .int .i64 p, .int .i64 g] 74)).alloc (.cells #[.int .i64 cz, .int .i64 q, .int .i64 l, .int .i64 f, .int .i64 fr, .int .i64 p, .int .i64 g] 35)).drew w.heap.size 35 #[.int .i64 sc, .int .i64 sq, .int .i64 sl, .int .i64 sf, .int .i64 sfr, .int .i64 sp, .int .i64 sg] from (HB5.out.below hB1 HB5.out.lt).drew')
  have Q8 := Lib.hid (show Blk ((w1.alloc (.cells #[.int .i64 ca, .bool en, .int .i64 cz, .int .i64 q, .int .i64 l, .int .i64 f, .int .i64 fr, .int .i64 p, .int .i64 g] 74)).alloc (.cells #[.int .i64 cz, .int .i64 q, .int .i64 l, .int .i64 f, .int .i64 fr, .int .i64 p, .int .i64 g] 35)).drew w1.heap.size 74 #[.int .i64 ca, .bool en, .int .i64 cz, .int .i64 q, .int .i64 l, .int .i64 f, .int .i64 fr, .int .i64 p, .int .i64 g] from ((Blk.new w1 74 #[.int .i64 ca, .bool en, .int .i64 cz, .int .i64 q, .int .i64 l, .int .i64 f, .int .i64 fr, .int .i64 p, .int .i64 g]).alloc _).drew')
  have Q9 := Lib.hid (show Blk ((w1.alloc (.cells #[.int .i64 ca, .bool en, .int .i64 cz, .int .i64 q, .int .i64 l, .int .i64 f, .int .i64 fr, .int .i64 p, .int .i64 g] 74)).alloc (.cells #[.int .i64 cz, .int .i64 q, .int .i64 l, .int .i64 f, .int .i64 fr, .int .i64 p, .int .i64 g] 35)).drew (w1.heap.size + 1) 35 #[.int .i64 cz, .int .i64 q, .int .i64 l, .int .i64 f, .int .i64 fr, .int .i64 p, .int .i64 g] from ((Blk.new _ 35 #[.int .i64 cz, .int .i64 q, .int .i64 l, .int .i64 f, .int .i64 fr, .int .i64 p, .int .i64 g]).at_eq (World.size_alloc _ _)).drew')
  have QR := Lib.hid (H.out.later HBX.out)
  have HS : Hid (SeR w.heap.size w1.heap.size (w1.heap.size + 1) rm c ca en cz q l f fr p g sc sq sl sf sfr sp sg ((w1.alloc (.cells #[.int .i64 ca, .bool en, .int .i64 cz, .int .i64 q, .int .i64 l, .int .i64 f, .int .i64 fr, .int .i64 p, .int .i64 g] 74)).alloc (.cells #[.int .i64 cz, .int .i64 q, .int .i64 l, .int .i64 f, .int .i64 fr, .int .i64 p, .int .i64 g] 35)).drew) := Lib.hid ⟨Q5.out, Q8.out, Q9.out, by obtain ⟨v, hx, _⟩ := QR.out; exact hx.cell 2, by obtain ⟨v, hx, _⟩ := QR.out; exact hx.cell 4⟩
  have HLE := Lib.hid (show w.heap.size < w1.heap.size by have := HB5.out.lt; omega)
  clear hB1 k0 k0' k1 k2 k3 k4 k5 k6 k7 k8
  generalize w1.heap.size = b8 at HBX Q5 Q8 Q9 HS HLE ⊢
  refine wp_region_plan2 (SeR w.heap.size b8 (b8 + 1) rm c ca en cz q l f fr p g sc sq sl sf sfr sp sg) 50 [(0, true), (1, true), (2, true), (3, true), (4, true), (5, true), (6, true), (7, false), (8, true), (9, true), (10, true), (11, true), (12, true), (13, true), (14, true), (15, true), (16, true), (17, false), (18, true), (19, true), (20, true), (21, true), (22, true), (23, true), (24, true), (25, true), (26, true), (27, true), (28, false), (29, true), (30, true), (31, true), (32, true), (33, true), (34, true), (35, true), (36, true), (37, true), (38, true), (39, true), (40, true), (41, true), (42, true), (43, true), (44, true), (45, true), (46, true), (47, true), (48, true), (49, true)] (by kernel_rfl) (by kernel_rfl) (fun _ _ d _ _ h => by cases d <;> exact h) (by decide) (by simp only [List.map_cons, List.map_nil, Array.getD_eq_getD_getElem?, List.getElem?_toArray, List.getElem?_cons_zero, List.getElem?_cons_succ, Option.getD_some]; rfl) (by simp only [List.map_cons, List.map_nil]; rfl) (HS.out) (fun PE hPE => ?_)
  refine plan_take (v := ?_) rfl (by rfl) ?_ ?_
  rotate_left
  · intro _ hSw; (try dsimp only at hSw); go_simp; (try with_reducible rfl)
  simp only [List.setIfInBounds_toArray, List.set_cons_zero, List.set_cons_succ]
  refine plan_take (v := ?_) rfl (by rfl) ?_ ?_
  rotate_left
  · intro _ hSw; (try dsimp only at hSw); have hx2 := hSw.p5.cell 6; go_simp; (try with_reducible rfl)
  simp only [List.setIfInBounds_toArray, List.set_cons_zero, List.set_cons_succ]
  refine plan_take (v := ?_) rfl (by rfl) ?_ ?_
  rotate_left
  · intro _ hSw; (try dsimp only at hSw); go_simp; (try with_reducible rfl)
  simp only [List.setIfInBounds_toArray, List.set_cons_zero, List.set_cons_succ]
  refine plan_take (v := ?_) rfl (by rfl) ?_ ?_
  rotate_left
  · intro _ hSw; (try dsimp only at hSw); have hx2 := hSw.p9.cell 6; go_simp; (try with_reducible rfl)
  simp only [List.setIfInBounds_toArray, List.set_cons_zero, List.set_cons_succ]
  refine plan_take (v := ?_) rfl (by rfl) ?_ ?_
  rotate_left
  · intro _ hSw; (try dsimp only at hSw); go_simp; (try with_reducible rfl)
  simp only [List.setIfInBounds_toArray, List.set_cons_zero, List.set_cons_succ]
  refine plan_take (v := ?_) rfl (by rfl) ?_ ?_
  rotate_left
  · intro _ hSw; (try dsimp only at hSw); have hx2 := hSw.p8.cell 0; go_simp; (try with_reducible rfl)
  simp only [List.setIfInBounds_toArray, List.set_cons_zero, List.set_cons_succ]
  refine plan_take (v := ?_) rfl (by rfl) ?_ ?_
  rotate_left
  · intro _ hSw; (try dsimp only at hSw); go_simp; (try with_reducible rfl)
  simp only [List.setIfInBounds_toArray, List.set_cons_zero, List.set_cons_succ]
  refine plan_call rfl (by rfl) (by first | (go_simp; done) | (go_simp; rfl)) (ref29_within sg g (8 * ca) _) ?_
  rintro e w4 ⟨rfl, rfl⟩
  refine ⟨.bool true, by rw [HW1.out], HS.out, ?_⟩
  simp only [List.setIfInBounds_toArray, List.set_cons_zero, List.set_cons_succ]
  refine plan_take (v := ?_) rfl (by rfl) ?_ ?_
  rotate_left
  · intro _ hSw; (try dsimp only at hSw); go_simp; (try with_reducible rfl)
  simp only [List.setIfInBounds_toArray, List.set_cons_zero, List.set_cons_succ]
  refine plan_take (v := ?_) rfl (by rfl) ?_ ?_
  rotate_left
  · intro _ hSw; (try dsimp only at hSw); go_simp; (try with_reducible rfl)
  simp only [List.setIfInBounds_toArray, List.set_cons_zero, List.set_cons_succ]
  refine plan_take (v := ?_) rfl (by rfl) ?_ ?_
  rotate_left
  · intro _ hSw; (try dsimp only at hSw); go_simp; (try with_reducible rfl)
  simp only [List.setIfInBounds_toArray, List.set_cons_zero, List.set_cons_succ]
  refine plan_take (v := ?_) rfl (by rfl) ?_ ?_
  rotate_left
  · intro _ hSw; (try dsimp only at hSw); have hx2 := hSw.p5.cell 1; go_simp; (try with_reducible rfl)
  simp only [List.setIfInBounds_toArray, List.set_cons_zero, List.set_cons_succ]
  refine plan_take (v := ?_) rfl (by rfl) ?_ ?_
  rotate_left
  · intro _ hSw; (try dsimp only at hSw); go_simp; (try with_reducible rfl)
  simp only [List.setIfInBounds_toArray, List.set_cons_zero, List.set_cons_succ]
  refine plan_take (v := ?_) rfl (by rfl) ?_ ?_
  rotate_left
  · intro _ hSw; (try dsimp only at hSw); go_simp; (try with_reducible rfl)
  simp only [List.setIfInBounds_toArray, List.set_cons_zero, List.set_cons_succ]
  refine plan_take (v := ?_) rfl (by rfl) ?_ ?_
  rotate_left
  · intro _ hSw; (try dsimp only at hSw); go_simp; (try with_reducible rfl)
  simp only [List.setIfInBounds_toArray, List.set_cons_zero, List.set_cons_succ]
  refine plan_take (v := ?_) rfl (by rfl) ?_ ?_
  rotate_left
  · intro _ hSw; (try dsimp only at hSw); go_simp; (try with_reducible rfl)
  simp only [List.setIfInBounds_toArray, List.set_cons_zero, List.set_cons_succ]
  refine plan_take (v := ?_) rfl (by rfl) ?_ ?_
  rotate_left
  · intro _ hSw; (try dsimp only at hSw); have hx2 := hSw.m4; go_simp; (try with_reducible rfl)
  simp only [List.setIfInBounds_toArray, List.set_cons_zero, List.set_cons_succ]
  refine plan_call rfl (by rfl) (by first | (go_simp; done) | (go_simp; rfl)) (ref29_within sq 0 c.slots _) ?_
  rintro e w4 ⟨rfl, rfl⟩
  refine ⟨.bool true, by rw [HW2.out], HS.out, ?_⟩
  simp only [List.setIfInBounds_toArray, List.set_cons_zero, List.set_cons_succ]
  refine plan_take (v := ?_) rfl (by rfl) ?_ ?_
  rotate_left
  · intro _ hSw; (try dsimp only at hSw); go_simp; (try with_reducible rfl)
  simp only [List.setIfInBounds_toArray, List.set_cons_zero, List.set_cons_succ]
  refine plan_take (v := ?_) rfl (by rfl) ?_ ?_
  rotate_left
  · intro _ hSw; (try dsimp only at hSw); go_simp; (try with_reducible rfl)
  simp only [List.setIfInBounds_toArray, List.set_cons_zero, List.set_cons_succ]
  refine plan_take (v := ?_) rfl (by rfl) ?_ ?_
  rotate_left
  · intro _ hSw; (try dsimp only at hSw); go_simp; (try with_reducible rfl)
  simp only [List.setIfInBounds_toArray, List.set_cons_zero, List.set_cons_succ]
  refine plan_take (v := ?_) rfl (by rfl) ?_ ?_
  rotate_left
  · intro _ hSw; (try dsimp only at hSw); go_simp; (try with_reducible rfl)
  simp only [List.setIfInBounds_toArray, List.set_cons_zero, List.set_cons_succ]
  refine plan_take (v := ?_) rfl (by rfl) ?_ ?_
  rotate_left
  · intro _ hSw; (try dsimp only at hSw); have hx2 := hSw.p5.cell 4; go_simp; (try with_reducible rfl)
  simp only [List.setIfInBounds_toArray, List.set_cons_zero, List.set_cons_succ]
  refine plan_take (v := ?_) rfl (by rfl) ?_ ?_
  rotate_left
  · intro _ hSw; (try dsimp only at hSw); go_simp; (try with_reducible rfl)
  simp only [List.setIfInBounds_toArray, List.set_cons_zero, List.set_cons_succ]
  refine plan_take (v := ?_) rfl (by rfl) ?_ ?_
  rotate_left
  · intro _ hSw; (try dsimp only at hSw); go_simp; (try with_reducible rfl)
  simp only [List.setIfInBounds_toArray, List.set_cons_zero, List.set_cons_succ]
  refine plan_take (v := ?_) rfl (by rfl) ?_ ?_
  rotate_left
  · intro _ hSw; (try dsimp only at hSw); go_simp; (try with_reducible rfl)
  simp only [List.setIfInBounds_toArray, List.set_cons_zero, List.set_cons_succ]
  refine plan_take (v := ?_) rfl (by rfl) ?_ ?_
  rotate_left
  · intro _ hSw; (try dsimp only at hSw); go_simp; (try with_reducible rfl)
  simp only [List.setIfInBounds_toArray, List.set_cons_zero, List.set_cons_succ]
  refine plan_take (v := ?_) rfl (by rfl) ?_ ?_
  rotate_left
  · intro _ hSw; (try dsimp only at hSw); have hx2 := hSw.m2; go_simp; (try with_reducible rfl)
  simp only [List.setIfInBounds_toArray, List.set_cons_zero, List.set_cons_succ]
  refine plan_call rfl (by rfl) (by first | (go_simp; done) | (go_simp; rfl)) (ref29_within sfr 0 c.quota _) ?_
  rintro e w4 ⟨rfl, rfl⟩
  refine ⟨.bool true, by rw [HW3.out], HS.out, ?_⟩
  simp only [List.setIfInBounds_toArray, List.set_cons_zero, List.set_cons_succ]
  refine plan_take (v := ?_) rfl (by rfl) ?_ ?_
  rotate_left
  · intro _ hSw; (try dsimp only at hSw); go_simp; (try with_reducible rfl)
  simp only [List.setIfInBounds_toArray, List.set_cons_zero, List.set_cons_succ]
  refine plan_take (v := ?_) rfl (by rfl) ?_ ?_
  rotate_left
  · intro _ hSw; (try dsimp only at hSw); go_simp; (try with_reducible rfl)
  simp only [List.setIfInBounds_toArray, List.set_cons_zero, List.set_cons_succ]
  refine plan_take (v := ?_) rfl (by rfl) ?_ ?_
  rotate_left
  · intro _ hSw; (try dsimp only at hSw); go_simp; (try with_reducible rfl)
  simp only [List.setIfInBounds_toArray, List.set_cons_zero, List.set_cons_succ]
  refine plan_take (v := ?_) rfl (by rfl) ?_ ?_
  rotate_left
  · intro _ hSw; (try dsimp only at hSw); go_simp; (try with_reducible rfl)
  simp only [List.setIfInBounds_toArray, List.set_cons_zero, List.set_cons_succ]
  refine plan_take (v := ?_) rfl (by rfl) ?_ ?_
  rotate_left
  · intro _ hSw; (try dsimp only at hSw); have hx2 := hSw.p5.cell 5; go_simp; (try with_reducible rfl)
  simp only [List.setIfInBounds_toArray, List.set_cons_zero, List.set_cons_succ]
  refine plan_take (v := ?_) rfl (by rfl) ?_ ?_
  rotate_left
  · intro _ hSw; (try dsimp only at hSw); go_simp; (try with_reducible rfl)
  simp only [List.setIfInBounds_toArray, List.set_cons_zero, List.set_cons_succ]
  refine plan_take (v := ?_) rfl (by rfl) ?_ ?_
  rotate_left
  · intro _ hSw; (try dsimp only at hSw); have hx2 := hSw.p9.cell 5; go_simp; (try with_reducible rfl)
  simp only [List.setIfInBounds_toArray, List.set_cons_zero, List.set_cons_succ]
  refine plan_take (v := ?_) rfl (by rfl) ?_ ?_
  rotate_left
  · intro _ hSw; (try dsimp only at hSw); go_simp; (try with_reducible rfl)
  simp only [List.setIfInBounds_toArray, List.set_cons_zero, List.set_cons_succ]
  refine plan_take (v := ?_) rfl (by rfl) ?_ ?_
  rotate_left
  · intro _ hSw; (try dsimp only at hSw); go_simp; (try with_reducible rfl)
  simp only [List.setIfInBounds_toArray, List.set_cons_zero, List.set_cons_succ]
  refine plan_take (v := ?_) rfl (by rfl) ?_ ?_
  rotate_left
  · intro _ hSw; (try dsimp only at hSw); go_simp; (try with_reducible rfl)
  simp only [List.setIfInBounds_toArray, List.set_cons_zero, List.set_cons_succ]
  refine plan_take (v := ?_) rfl (by rfl) ?_ ?_
  rotate_left
  · intro _ hSw; (try dsimp only at hSw); go_simp; (try with_reducible rfl)
  simp only [List.setIfInBounds_toArray, List.set_cons_zero, List.set_cons_succ]
  refine plan_take (v := ?_) rfl (by rfl) ?_ ?_
  rotate_left
  · intro _ hSw; (try dsimp only at hSw); have hx2 := hSw.p9.cell 0; go_simp; (try with_reducible rfl)
  simp only [List.setIfInBounds_toArray, List.set_cons_zero, List.set_cons_succ]
  refine plan_take (v := ?_) rfl (by rfl) ?_ ?_
  rotate_left
  · intro _ hSw; (try dsimp only at hSw); go_simp; (try with_reducible rfl)
  simp only [List.setIfInBounds_toArray, List.set_cons_zero, List.set_cons_succ]
  refine plan_take (v := ?_) rfl (by rfl) ?_ ?_
  rotate_left
  · intro _ hSw; (try dsimp only at hSw); go_simp; (try with_reducible rfl)
  simp only [List.setIfInBounds_toArray, List.set_cons_zero, List.set_cons_succ]
  refine plan_take (v := ?_) rfl (by rfl) ?_ ?_
  rotate_left
  · intro _ hSw; (try dsimp only at hSw); go_simp; (try with_reducible rfl)
  simp only [List.setIfInBounds_toArray, List.set_cons_zero, List.set_cons_succ]
  refine plan_take (v := ?_) rfl (by rfl) ?_ ?_
  rotate_left
  · intro _ hSw; (try dsimp only at hSw); have hx2 := hSw.p5.cell 0; go_simp; (try with_reducible rfl)
  simp only [List.setIfInBounds_toArray, List.set_cons_zero, List.set_cons_succ]
  refine plan_take (v := ?_) rfl (by rfl) ?_ ?_
  rotate_left
  · intro _ hSw; (try dsimp only at hSw); go_simp; (try with_reducible rfl)
  simp only [List.setIfInBounds_toArray, List.set_cons_zero, List.set_cons_succ]
  refine plan_take (v := ?_) rfl (by rfl) ?_ ?_
  rotate_left
  · intro _ hSw; (try dsimp only at hSw); have hx2 := hSw.p9.cell 0; go_simp; (try with_reducible rfl)
  simp only [List.setIfInBounds_toArray, List.set_cons_zero, List.set_cons_succ]
  refine plan_take (v := ?_) rfl (by rfl) ?_ ?_
  rotate_left
  · intro _ hSw; (try dsimp only at hSw); go_simp; (try with_reducible rfl)
  simp only [List.setIfInBounds_toArray, List.set_cons_zero, List.set_cons_succ]
  refine plan_take (v := ?_) rfl (by rfl) ?_ ?_
  rotate_left
  · intro _ hSw; (try dsimp only at hSw); go_simp; (try with_reducible rfl)
  simp only [List.setIfInBounds_toArray, List.set_cons_zero, List.set_cons_succ]
  refine plan_take (v := ?_) rfl (by rfl) ?_ ?_
  rotate_left
  · intro _ hSw; (try dsimp only at hSw); go_simp; (try with_reducible rfl)
  simp only [List.setIfInBounds_toArray, List.set_cons_zero, List.set_cons_succ]
  (refine hPE _ _ ?_; simp only [List.drop_succ_cons, List.drop_zero]; clear hPE PE)
  clear HS
  generalize ((w1.alloc (.cells #[.int .i64 ca, .bool en, .int .i64 cz, .int .i64 q, .int .i64 l, .int .i64 f, .int .i64 fr, .int .i64 p, .int .i64 g] 74)).alloc (.cells #[.int .i64 cz, .int .i64 q, .int .i64 l, .int .i64 f, .int .i64 fr, .int .i64 p, .int .i64 g] 35)).drew = Y at HBX Q5 Q8 Q9 QR ⊢
  have HNE := Lib.hid (show w.heap.size ≠ b8 ∧ rm ≠ b8 from ⟨Nat.ne_of_lt HLE.out, fun e => by obtain ⟨v, hx, _⟩ := H.out; exact Nat.ne_of_lt (Nat.lt_trans hx.lt HLE.out) e⟩)
  have n0 := Q5.out.cell 0; have n1 := Q5.out.cell 1; have n2 := Q5.out.cell 2; have n3 := Q5.out.cell 3; have n4 := Q5.out.cell 4; have n5 := Q5.out.cell 5; have n6 := Q5.out.cell 6
  have m2 := Q8.out.cell 2; have m3 := Q8.out.cell 3; have m4 := Q8.out.cell 4; have m5 := Q8.out.cell 5; have m6 := Q8.out.cell 6; have m7 := Q8.out.cell 7; have m8 := Q8.out.cell 8
  have f2 := Q8.out.frozen 2; have f3 := Q8.out.frozen 3; have f4 := Q8.out.frozen 4; have f5 := Q8.out.frozen 5; have f6 := Q8.out.frozen 6; have f7 := Q8.out.frozen 7; have f8 := Q8.out.frozen 8
  have hZ8 : Blk (((((((Y.setCell ⟨b8, 2, none⟩ (.int .i64 sc)).setCell ⟨b8, 3, none⟩ (.int .i64 sq)).setCell ⟨b8, 4, none⟩ (.int .i64 sl)).setCell ⟨b8, 5, none⟩ (.int .i64 sf)).setCell ⟨b8, 6, none⟩ (.int .i64 sfr)).setCell ⟨b8, 7, none⟩ (.int .i64 sp)).setCell ⟨b8, 8, none⟩ (.int .i64 sg)) b8 74 #[.int .i64 ca, .bool en, .int .i64 sc, .int .i64 sq, .int .i64 sl, .int .i64 sf, .int .i64 sfr, .int .i64 sp, .int .i64 sg] := set7_at2 Q8.out _ _ _ _ _ _ _
  have hZ5 : Blk (((((((Y.setCell ⟨b8, 2, none⟩ (.int .i64 sc)).setCell ⟨b8, 3, none⟩ (.int .i64 sq)).setCell ⟨b8, 4, none⟩ (.int .i64 sl)).setCell ⟨b8, 5, none⟩ (.int .i64 sf)).setCell ⟨b8, 6, none⟩ (.int .i64 sfr)).setCell ⟨b8, 7, none⟩ (.int .i64 sp)).setCell ⟨b8, 8, none⟩ (.int .i64 sg)) w.heap.size 35 #[.int .i64 sc, .int .i64 sq, .int .i64 sl, .int .i64 sf, .int .i64 sfr, .int .i64 sp, .int .i64 sg] := set7_far Q5.out HNE.out.1 _ _ _ _ _ _ _
  have hZB : Below w.heap.size w (((((((Y.setCell ⟨b8, 2, none⟩ (.int .i64 sc)).setCell ⟨b8, 3, none⟩ (.int .i64 sq)).setCell ⟨b8, 4, none⟩ (.int .i64 sl)).setCell ⟨b8, 5, none⟩ (.int .i64 sf)).setCell ⟨b8, 6, none⟩ (.int .i64 sfr)).setCell ⟨b8, 7, none⟩ (.int .i64 sp)).setCell ⟨b8, 8, none⟩ (.int .i64 sg)) := set7_bel HBX.out (Nat.le_of_lt HLE.out) _ _ _ _ _ _ _
  have P8 := Lib.hid hZ8; have P5 := Lib.hid hZ5; have PB := Lib.hid hZB
  clear hZ8 hZ5 hZB
  have CC : Hid (∀ Z, Blk Z b8 74 #[.int .i64 ca, .bool en, .int .i64 sc, .int .i64 sq, .int .i64 sl, .int .i64 sf, .int .i64 sfr, .int .i64 sp, .int .i64 sg] → RAt Z rm rt base c L → Calls Tryz.prog 53 #[.pointer (some ⟨rm, 0, none⟩), .pointer (some ⟨b8, 0, none⟩)] Z fun e w' => (∃ u, e = .returned u) ∧ w' = (((Z.setCell ⟨b8, 0 + 4, none⟩ (.int .i64 lw)).drew).setCell ⟨b8, 0 + 5, none⟩ (.int .i64 fw)).drew) := Lib.hid fun Z hz hr => by
    have h3 : Z.cell? ⟨rm, 3, none⟩ = some (.int .i64 c.room) := by obtain ⟨v, hx, _⟩ := hr; exact hx.cell 3
    exact ref29_counts Z rm b8 0 ca sg c.room sl sf lw fw d8 (hz.cell 0) (hz.cell 8) (hz.cell 4) (hz.cell 5) h3 (fun j => hz.frozen j) HNE.out.2 HE8.out HA.out.1 HA.out.2.1 HA.out.2.2.1 HA.out.2.2.2.1 HA.out.2.2.2.2
  have HC6 : Hid (∀ W : World, Below w.heap.size w W → W.cell? ⟨rm, 6, none⟩ = w.cell? ⟨rm, 6, none⟩) := Lib.hid fun W hW => hW.cell (by obtain ⟨v, hx, _⟩ := H.out; exact hx.lt)
  obtain ⟨g0, cap0, c60, _, _, hfz0⟩ := H.out.cells HL.out
  have HG := Lib.hid c60
  clear c6 hgg hfz c60 hfz0
  go_wp2_with (go_at_call 53; refine (CC.out _ P8.out (H.out.later PB.out)).mono ?_; rintro e w3 ⟨⟨u, rfl⟩, hw3⟩; have hz8 : Blk w3 b8 74 #[.int .i64 ca, .bool en, .int .i64 sc, .int .i64 sq, .int .i64 lw, .int .i64 fw, .int .i64 sfr, .int .i64 sp, .int .i64 sg] := by { rw [hw3]; exact (((P8.out.set_ 4 _).drew').set_ 5 _).drew' }; have hz5 : Blk w3 w.heap.size 35 #[.int .i64 sc, .int .i64 sq, .int .i64 sl, .int .i64 sf, .int .i64 sfr, .int .i64 sp, .int .i64 sg] := by { rw [hw3]; exact (((P5.out.far (p := ⟨b8, 0 + 4, none⟩) HNE.out.1 _).drew').far (p := ⟨b8, 0 + 5, none⟩) HNE.out.1 _).drew' }; have hzb : Below w.heap.size w w3 := by { rw [hw3]; exact (((PB.out.setCell (p := ⟨b8, 0 + 4, none⟩) (Nat.le_of_lt HLE.out) _).drew).setCell (p := ⟨b8, 0 + 5, none⟩) (Nat.le_of_lt HLE.out) _).drew }; have y0 := hz8.cell 0; have y1 := hz8.cell 1; have y2 := hz8.cell 2; have y3 := hz8.cell 3; have y4 := hz8.cell 4; have y5 := hz8.cell 5; have y6 := hz8.cell 6; have y7 := hz8.cell 7; have y8 := hz8.cell 8; have z0 := hz5.cell 0; have z1 := hz5.cell 1; have z2 := hz5.cell 2; have z3 := hz5.cell 3; have z4 := hz5.cell 4; have z5 := hz5.cell 5; have z6 := hz5.cell 6; have U8 := Lib.hid hz8; have UB := Lib.hid hzb; clear hw3 hz8 hz5 hzb)
  go_returns
  exact ⟨rfl, H.out.later UB.out, RFq.of_below UB.out⟩
end Go.Proofs.YtklelheejopfmaaGreat
