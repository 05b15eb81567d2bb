/- Se29pb2, See29, Pr29 -/
import Derived.Test.YtklelheejopfmaaGreatK29
import Derived.Test.YtklelheejopfmaaGreatK30
import Derived.Test.YtklelheejopfmaaGreatK31
import Derived.Test.YtklelheejopfmaaGreatK32
import Derived.Test.YtklelheejopfmaaGreatK33
import Derived.Test.YtklelheejopfmaaGreatK34
import Derived.Test.YtklelheejopfmaaGreatK35
import Derived.Test.YtklelheejopfmaaGreatK36
namespace Go.Proofs.YtklelheejopfmaaGreat
open Go Go.RowKit Go.Maps
attribute [local go_sem] Oper.semAt_some
set_option maxRecDepth 100000 in
set_option maxHeartbeats 4000000 in
theorem see29_pb2 (w : World) (rm rt base : Nat) (c : Cfg) (L : List Ent) (h : RAt w rm rt base c L) (i : Nat) (ca : Int) (en : Bool) (cz q l f fr p g sc sq sl sf sfr sp sg : Int) (hL : L[i]? = some (0, ⟨ca, en, cz, q, l, f, fr, p, g⟩)) (hw : (Lit.int .i64 ((i : Int) + 1)).wf = true) (h8 : wrap64 (8 * ca) = 8 * ca) (hw1 : g ≤ sg ∧ sg ≤ 8 * ca) (hw2 : 0 ≤ sq ∧ sq ≤ c.slots) (hw3 : 0 ≤ sfr ∧ sfr ≤ c.quota) (hlt : ¬ sp < p) (hcz : cz ≠ 0) (hsc : sc = cz) (fw d8 : Int) (e2 : wrap64 (8 * ca - sg) = sl) (e3 : sg.tdiv 8 = d8) (e4 : wrap64 d8 = d8) (e5 : wrap64 (c.room - ca) = c.room - ca) (e6 : wrap64 (c.room - ca + d8) = fw) (hne : fw ≠ sf) :
    Calls Tryz.prog 31 #[.pointer (some ⟨rm, 0, none⟩), .int .i64 ((i : Int) + 1), .agg #[.int .i64 sc, .int .i64 sq, .int .i64 sl, .int .i64 sf, .int .i64 sfr, .int .i64 sp, .int .i64 sg]] w fun e w' => e = .returned (.int .i64 2) ∧ RAt w' rm rt base c L ∧ RFq T29 base w w' := by
  have hi := (ix_get hL).1
  have hll : L.length ≤ 2147483647 := by obtain ⟨_, _, _, ⟨_, _, _, t3, _⟩, _⟩ := h; exact t3
  obtain ⟨i0, i1, wi, wi2⟩ := ix_facts hi hll
  have h8' := wrap_same h8
  have hy : whyF L ((i : Int) + 1) = 0 := by
    unfold whyF
    rw [atL_nat hi]
    have hx := (ix_get hL).2
    rw [hx]
  have hB0 : Below w.heap.size w (w.alloc (.cells #[.int .i64 sc, .int .i64 sq, .int .i64 sl, .int .i64 sf, .int .i64 sfr, .int .i64 sp, .int .i64 sg] 35)) := (Below.refl _ _).alloc (Nat.le_refl _) _
  have CR := Lib.hid (ref29_refuses _ rm rt base c L (h.later hB0) ((i : Int) + 1) hw)
  rw [hy] at CR
  have H := Lib.hid h
  have HL := Lib.hid hL
  have HB0 := Lib.hid hB0
  have B5 := Lib.hid (Blk.new w 35 #[.int .i64 sc, .int .i64 sq, .int .i64 sl, .int .i64 sf, .int .i64 sfr, .int .i64 sp, .int .i64 sg])
  have HW1 := Lib.hid (show decide (g ≤ sg ∧ sg ≤ 8 * ca) = true from decide_eq_true hw1)
  have HW2 := Lib.hid (show decide (0 ≤ sq ∧ sq ≤ c.slots) = true from decide_eq_true hw2)
  have HW3 := Lib.hid (show decide (0 ≤ sfr ∧ sfr ≤ c.quota) = true from decide_eq_true hw3)
  have d4 : decide (sp < p) = false := decide_eq_false hlt
  have HA := Lib.hid (And.intro e2 (And.intro e3 (And.intro e4 (And.intro e5 e6))))
  have HE8 := Lib.hid h8
  have d5 : (cz != 0) = true := bne_iff_ne.2 hcz
  have d6 : (sc != cz) = false := by rw [hsc]; exact bne_self_eq_false _
  have d7 : (fw == sf) = false := beq_eq_false_iff_ne.2 hne
  clear h hL hw hi hll hy hB0 h8 hw1 hw2 hw3 hlt e2 e3 e4 e5 e6 hcz hsc hne
  go_enter Tryz.func31, Tryz.ntmps31
  go_wp2_with (go_at_call 52; refine CR.out.mono ?_; rintro e w1 ⟨rfl, hb1⟩; have HB1 := Lib.hid (HB0.out.trans (hb1.mono HB0.out.size)); have HR1 := Lib.hid (H.out.later HB1.out); have HB5 := Lib.hid (B5.out.below hb1 B5.out.lt); obtain ⟨gg, cap, c6, hgg, hcell, hfz⟩ := HR1.out.cells HL.out; have k0 := hcell 0 (by decide); have k1 := hcell 1 (by decide); have k2 := hcell 2 (by decide); have k3 := hcell 3 (by decide); have k4 := hcell 4 (by decide); have k5 := hcell 5 (by decide); have k6 := hcell 6 (by decide); have k7 := hcell 7 (by decide); have k8 := hcell 8 (by decide); simp only [knC] at k0 k1 k2 k3 k4 k5 k6 k7 k8; have k0' : w1.cell? ⟨gg, i * 9, none⟩ = some (.int .i64 ca) := k0; clear hb1 hcell)
  have hB1 : Below w1.heap.size w1 ((w1.alloc (.cells #[.int .i64 ca, .bool en, .int .i64 cz, .int .i64 q, .int .i64 l, .int .i64 f, .int .i64 fr, .int .i64 p, .int .i64 g] 74)).alloc (.cells #[.int .i64 cz, .int .i64 q, .int .i64 l, .int .i64 f, .int .i64 fr, .int .i64 p, .int .i64 g] 35)) := ((Below.refl _ _).alloc (Nat.le_refl _) _).alloc (by simp) _
  have HBX := Lib.hid (show Below w.heap.size w ((w1.alloc (.cells #[.int .i64 ca, .bool en, .int .i64 cz, .int .i64 q, .int .i64 l, .int .i64 f, .int .i64 fr, .int .i64 p, .int .i64 g] 74)).alloc (.cells #[.int .i64 cz, .int .i64 q, .int .i64 l, .int .i64 f, .int .i64 fr, .int .i64 p, .int .i64 g] 35)).drew from (HB1.out.trans (hB1.mono HB1.out.size)).drew)
  have Q5 := Lib.hid (show Blk ((w1.alloc (.cells #[.int .i64 ca, .bool en, .int .i64 cz, .int .i64 q, .int .i64 l, .int .i64 f, .int .i64 fr, .int .i64 p, .int .i64 g] 74)).alloc (.cells #[.int .i64 cz, .int .i64 q, .int .i64 l, .int .i64 f, .int .i64 fr, .int .i64 p, .int .i64 g] 35)).drew w.heap.size 35 #[.int .i64 sc, .int .i64 sq, .int .i64 sl, .int .i64 sf, .int .i64 sfr, .int .i64 sp, .int .i64 sg] from (HB5.out.below hB1 HB5.out.lt).drew')
  have Q8 := Lib.hid (show Blk ((w1.alloc (.cells #[.int .i64 ca, .bool en, .int .i64 cz, .int .i64 q, .int .i64 l, .int .i64 f, .int .i64 fr, .int .i64 p, .int .i64 g] 74)).alloc (.cells #[.int .i64 cz, .int .i64 q, .int .i64 l, .int .i64 f, .int .i64 fr, .int .i64 p, .int .i64 g] 35)).drew w1.heap.size 74 #[.int .i64 ca, .bool en, .int .i64 cz, .int .i64 q, .int .i64 l, .int .i64 f, .int .i64 fr, .int .i64 p, .int .i64 g] from ((Blk.new w1 74 #[.int .i64 ca, .bool en, .int .i64 cz, .int .i64 q, .int .i64 l, .int .i64 f, .int .i64 fr, .int .i64 p, .int .i64 g]).alloc _).drew')
  have Q9 := Lib.hid (show Blk ((w1.alloc (.cells #[.int .i64 ca, .bool en, .int .i64 cz, .int .i64 q, .int .i64 l, .int .i64 f, .int .i64 fr, .int .i64 p, .int .i64 g] 74)).alloc (.cells #[.int .i64 cz, .int .i64 q, .int .i64 l, .int .i64 f, .int .i64 fr, .int .i64 p, .int .i64 g] 35)).drew (w1.heap.size + 1) 35 #[.int .i64 cz, .int .i64 q, .int .i64 l, .int .i64 f, .int .i64 fr, .int .i64 p, .int .i64 g] from ((Blk.new _ 35 #[.int .i64 cz, .int .i64 q, .int .i64 l, .int .i64 f, .int .i64 fr, .int .i64 p, .int .i64 g]).at_eq (World.size_alloc _ _)).drew')
  have QR := Lib.hid (H.out.later HBX.out)
  have HS : Hid (SeR w.heap.size w1.heap.size (w1.heap.size + 1) rm c ca en cz q l f fr p g sc sq sl sf sfr sp sg ((w1.alloc (.cells #[.int .i64 ca, .bool en, .int .i64 cz, .int .i64 q, .int .i64 l, .int .i64 f, .int .i64 fr, .int .i64 p, .int .i64 g] 74)).alloc (.cells #[.int .i64 cz, .int .i64 q, .int .i64 l, .int .i64 f, .int .i64 fr, .int .i64 p, .int .i64 g] 35)).drew) := Lib.hid ⟨Q5.out, Q8.out, Q9.out, by obtain ⟨v, hx, _⟩ := QR.out; exact hx.cell 2, by obtain ⟨v, hx, _⟩ := QR.out; exact hx.cell 4⟩
  have HLE := Lib.hid (show w.heap.size < w1.heap.size by have := HB5.out.lt; omega)
  clear hB1 k0 k0' k1 k2 k3 k4 k5 k6 k7 k8
  generalize w1.heap.size = b8 at HBX Q5 Q8 Q9 HS HLE ⊢
  refine wp_region_plan2 (SeR w.heap.size b8 (b8 + 1) rm c ca en cz q l f fr p g sc sq sl sf sfr sp sg) 50 [(0, true), (1, true), (2, true), (3, true), (4, true), (5, true), (6, true), (7, false), (8, true), (9, true), (10, true), (11, true), (12, true), (13, true), (14, true), (15, true), (16, true), (17, false), (18, true), (19, true), (20, true), (21, true), (22, true), (23, true), (24, true), (25, true), (26, true), (27, true), (28, false), (29, true), (30, true), (31, true), (32, true), (33, true), (34, true), (35, true), (36, true), (37, true), (38, true), (39, true), (40, true), (41, true), (42, true), (43, true), (44, true), (45, true), (46, true), (47, true), (48, true), (49, true)] (by kernel_rfl) (by kernel_rfl) (fun _ _ d _ _ h => by cases d <;> exact h) (by decide) (by simp only [List.map_cons, List.map_nil, Array.getD_eq_getD_getElem?, List.getElem?_toArray, List.getElem?_cons_zero, List.getElem?_cons_succ, Option.getD_some]; rfl) (by simp only [List.map_cons, List.map_nil]; rfl) (HS.out) (fun PE hPE => ?_)
  refine plan_take (v := ?_) rfl (by rfl) ?_ ?_
  rotate_left
  · intro _ hSw; (try dsimp only at hSw); go_simp; (try with_reducible rfl)
  simp only [List.setIfInBounds_toArray, List.set_cons_zero, List.set_cons_succ]
  refine plan_take (v := ?_) rfl (by rfl) ?_ ?_
  rotate_left
  · intro _ hSw; (try dsimp only at hSw); have hx2 := hSw.p5.cell 6; go_simp; (try with_reducible rfl)
  simp only [List.setIfInBounds_toArray, List.set_cons_zero, List.set_cons_succ]
  refine plan_take (v := ?_) rfl (by rfl) ?_ ?_
  rotate_left
  · intro _ hSw; (try dsimp only at hSw); go_simp; (try with_reducible rfl)
  simp only [List.setIfInBounds_toArray, List.set_cons_zero, List.set_cons_succ]
  refine plan_take (v := ?_) rfl (by rfl) ?_ ?_
  rotate_left
  · intro _ hSw; (try dsimp only at hSw); have hx2 := hSw.p9.cell 6; go_simp; (try with_reducible rfl)
  simp only [List.setIfInBounds_toArray, List.set_cons_zero, List.set_cons_succ]
  refine plan_take (v := ?_) rfl (by rfl) ?_ ?_
  rotate_left
  · intro _ hSw; (try dsimp only at hSw); go_simp; (try with_reducible rfl)
  simp only [List.setIfInBounds_toArray, List.set_cons_zero, List.set_cons_succ]
  refine plan_take (v := ?_) rfl (by rfl) ?_ ?_
  rotate_left
  · intro _ hSw; (try dsimp only at hSw); have hx2 := hSw.p8.cell 0; go_simp; (try with_reducible rfl)
  simp only [List.setIfInBounds_toArray, List.set_cons_zero, List.set_cons_succ]
  refine plan_take (v := ?_) rfl (by rfl) ?_ ?_
  rotate_left
  · intro _ hSw; (try dsimp only at hSw); go_simp; (try with_reducible rfl)
  simp only [List.setIfInBounds_toArray, List.set_cons_zero, List.set_cons_succ]
  refine plan_call rfl (by rfl) (by first | (go_simp; done) | (go_simp; rfl)) (ref29_within sg g (8 * ca) _) ?_
  rintro e w4 ⟨rfl, rfl⟩
  refine ⟨.bool true, by rw [HW1.out], HS.out, ?_⟩
  simp only [List.setIfInBounds_toArray, List.set_cons_zero, List.set_cons_succ]
  refine plan_take (v := ?_) rfl (by rfl) ?_ ?_
  rotate_left
  · intro _ hSw; (try dsimp only at hSw); go_simp; (try with_reducible rfl)
  simp only [List.setIfInBounds_toArray, List.set_cons_zero, List.set_cons_succ]
  refine plan_take (v := ?_) rfl (by rfl) ?_ ?_
  rotate_left
  · intro _ hSw; (try dsimp only at hSw); go_simp; (try with_reducible rfl)
  simp only [List.setIfInBounds_toArray, List.set_cons_zero, List.set_cons_succ]
  refine plan_take (v := ?_) rfl (by rfl) ?_ ?_
  rotate_left
  · intro _ hSw; (try dsimp only at hSw); go_simp; (try with_reducible rfl)
  simp only [List.setIfInBounds_toArray, List.set_cons_zero, List.set_cons_succ]
  refine plan_take (v := ?_) rfl (by rfl) ?_ ?_
  rotate_left
  · intro _ hSw; (try dsimp only at hSw); have hx2 := hSw.p5.cell 1; go_simp; (try with_reducible rfl)
  simp only [List.setIfInBounds_toArray, List.set_cons_zero, List.set_cons_succ]
  refine plan_take (v := ?_) rfl (by rfl) ?_ ?_
  rotate_left
  · intro _ hSw; (try dsimp only at hSw); go_simp; (try with_reducible rfl)
  simp only [List.setIfInBounds_toArray, List.set_cons_zero, List.set_cons_succ]
  refine plan_take (v := ?_) rfl (by rfl) ?_ ?_
  rotate_left
  · intro _ hSw; (try dsimp only at hSw); go_simp; (try with_reducible rfl)
  simp only [List.setIfInBounds_toArray, List.set_cons_zero, List.set_cons_succ]
  refine plan_take (v := ?_) rfl (by rfl) ?_ ?_
  rotate_left
  · intro _ hSw; (try dsimp only at hSw); go_simp; (try with_reducible rfl)
  simp only [List.setIfInBounds_toArray, List.set_cons_zero, List.set_cons_succ]
  refine plan_take (v := ?_) rfl (by rfl) ?_ ?_
  rotate_left
  · intro _ hSw; (try dsimp only at hSw); go_simp; (try with_reducible rfl)
  simp only [List.setIfInBounds_toArray, List.set_cons_zero, List.set_cons_succ]
  refine plan_take (v := ?_) rfl (by rfl) ?_ ?_
  rotate_left
  · intro _ hSw; (try dsimp only at hSw); have hx2 := hSw.m4; go_simp; (try with_reducible rfl)
  simp only [List.setIfInBounds_toArray, List.set_cons_zero, List.set_cons_succ]
  refine plan_call rfl (by rfl) (by first | (go_simp; done) | (go_simp; rfl)) (ref29_within sq 0 c.slots _) ?_
  rintro e w4 ⟨rfl, rfl⟩
  refine ⟨.bool true, by rw [HW2.out], HS.out, ?_⟩
  simp only [List.setIfInBounds_toArray, List.set_cons_zero, List.set_cons_succ]
  refine plan_take (v := ?_) rfl (by rfl) ?_ ?_
  rotate_left
  · intro _ hSw; (try dsimp only at hSw); go_simp; (try with_reducible rfl)
  simp only [List.setIfInBounds_toArray, List.set_cons_zero, List.set_cons_succ]
  refine plan_take (v := ?_) rfl (by rfl) ?_ ?_
  rotate_left
  · intro _ hSw; (try dsimp only at hSw); go_simp; (try with_reducible rfl)
  simp only [List.setIfInBounds_toArray, List.set_cons_zero, List.set_cons_succ]
  refine plan_take (v := ?_) rfl (by rfl) ?_ ?_
  rotate_left
  · intro _ hSw; (try dsimp only at hSw); go_simp; (try with_reducible rfl)
  simp only [List.setIfInBounds_toArray, List.set_cons_zero, List.set_cons_succ]
  refine plan_take (v := ?_) rfl (by rfl) ?_ ?_
  rotate_left
  · intro _ hSw; (try dsimp only at hSw); go_simp; (try with_reducible rfl)
  simp only [List.setIfInBounds_toArray, List.set_cons_zero, List.set_cons_succ]
  refine plan_take (v := ?_) rfl (by rfl) ?_ ?_
  rotate_left
  · intro _ hSw; (try dsimp only at hSw); have hx2 := hSw.p5.cell 4; go_simp; (try with_reducible rfl)
  simp only [List.setIfInBounds_toArray, List.set_cons_zero, List.set_cons_succ]
  refine plan_take (v := ?_) rfl (by rfl) ?_ ?_
  rotate_left
  · intro _ hSw; (try dsimp only at hSw); go_simp; (try with_reducible rfl)
  simp only [List.setIfInBounds_toArray, List.set_cons_zero, List.set_cons_succ]
  refine plan_take (v := ?_) rfl (by rfl) ?_ ?_
  rotate_left
  · intro _ hSw; (try dsimp only at hSw); go_simp; (try with_reducible rfl)
  simp only [List.setIfInBounds_toArray, List.set_cons_zero, List.set_cons_succ]
  refine plan_take (v := ?_) rfl (by rfl) ?_ ?_
  rotate_left
  · intro _ hSw; (try dsimp only at hSw); go_simp; (try with_reducible rfl)
  simp only [List.setIfInBounds_toArray, List.set_cons_zero, List.set_cons_succ]
  refine plan_take (v := ?_) rfl (by rfl) ?_ ?_
  rotate_left
  · intro _ hSw; (try dsimp only at hSw); go_simp; (try with_reducible rfl)
  simp only [List.setIfInBounds_toArray, List.set_cons_zero, List.set_cons_succ]
  refine plan_take (v := ?_) rfl (by rfl) ?_ ?_
  rotate_left
  · intro _ hSw; (try dsimp only at hSw); have hx2 := hSw.m2; go_simp; (try with_reducible rfl)
  simp only [List.setIfInBounds_toArray, List.set_cons_zero, List.set_cons_succ]
  refine plan_call rfl (by rfl) (by first | (go_simp; done) | (go_simp; rfl)) (ref29_within sfr 0 c.quota _) ?_
  rintro e w4 ⟨rfl, rfl⟩
  refine ⟨.bool true, by rw [HW3.out], HS.out, ?_⟩
  simp only [List.setIfInBounds_toArray, List.set_cons_zero, List.set_cons_succ]
  refine plan_take (v := ?_) rfl (by rfl) ?_ ?_
  rotate_left
  · intro _ hSw; (try dsimp only at hSw); go_simp; (try with_reducible rfl)
  simp only [List.setIfInBounds_toArray, List.set_cons_zero, List.set_cons_succ]
  refine plan_take (v := ?_) rfl (by rfl) ?_ ?_
  rotate_left
  · intro _ hSw; (try dsimp only at hSw); go_simp; (try with_reducible rfl)
  simp only [List.setIfInBounds_toArray, List.set_cons_zero, List.set_cons_succ]
  refine plan_take (v := ?_) rfl (by rfl) ?_ ?_
  rotate_left
  · intro _ hSw; (try dsimp only at hSw); go_simp; (try with_reducible rfl)
  simp only [List.setIfInBounds_toArray, List.set_cons_zero, List.set_cons_succ]
  refine plan_take (v := ?_) rfl (by rfl) ?_ ?_
  rotate_left
  · intro _ hSw; (try dsimp only at hSw); go_simp; (try with_reducible rfl)
  simp only [List.setIfInBounds_toArray, List.set_cons_zero, List.set_cons_succ]
  refine plan_take (v := ?_) rfl (by rfl) ?_ ?_
  rotate_left
  · intro _ hSw; (try dsimp only at hSw); have hx2 := hSw.p5.cell 5; go_simp; (try with_reducible rfl)
  simp only [List.setIfInBounds_toArray, List.set_cons_zero, List.set_cons_succ]
  refine plan_take (v := ?_) rfl (by rfl) ?_ ?_
  rotate_left
  · intro _ hSw; (try dsimp only at hSw); go_simp; (try with_reducible rfl)
  simp only [List.setIfInBounds_toArray, List.set_cons_zero, List.set_cons_succ]
  refine plan_take (v := ?_) rfl (by rfl) ?_ ?_
  rotate_left
  · intro _ hSw; (try dsimp only at hSw); have hx2 := hSw.p9.cell 5; go_simp; (try with_reducible rfl)
  simp only [List.setIfInBounds_toArray, List.set_cons_zero, List.set_cons_succ]
  refine plan_take (v := ?_) rfl (by rfl) ?_ ?_
  rotate_left
  · intro _ hSw; (try dsimp only at hSw); go_simp; (try with_reducible rfl)
  simp only [List.setIfInBounds_toArray, List.set_cons_zero, List.set_cons_succ]
  refine plan_take (v := ?_) rfl (by rfl) ?_ ?_
  rotate_left
  · intro _ hSw; (try dsimp only at hSw); go_simp; (try with_reducible rfl)
  simp only [List.setIfInBounds_toArray, List.set_cons_zero, List.set_cons_succ]
  refine plan_take (v := ?_) rfl (by rfl) ?_ ?_
  rotate_left
  · intro _ hSw; (try dsimp only at hSw); go_simp; (try with_reducible rfl)
  simp only [List.setIfInBounds_toArray, List.set_cons_zero, List.set_cons_succ]
  refine plan_take (v := ?_) rfl (by rfl) ?_ ?_
  rotate_left
  · intro _ hSw; (try dsimp only at hSw); go_simp; (try with_reducible rfl)
  simp only [List.setIfInBounds_toArray, List.set_cons_zero, List.set_cons_succ]
  refine plan_take (v := ?_) rfl (by rfl) ?_ ?_
  rotate_left
  · intro _ hSw; (try dsimp only at hSw); have hx2 := hSw.p9.cell 0; go_simp; (try with_reducible rfl)
  simp only [List.setIfInBounds_toArray, List.set_cons_zero, List.set_cons_succ]
  refine plan_take (v := ?_) rfl (by rfl) ?_ ?_
  rotate_left
  · intro _ hSw; (try dsimp only at hSw); go_simp; (try with_reducible rfl)
  simp only [List.setIfInBounds_toArray, List.set_cons_zero, List.set_cons_succ]
  refine plan_take (v := ?_) rfl (by rfl) ?_ ?_
  rotate_left
  · intro _ hSw; (try dsimp only at hSw); go_simp; (try with_reducible rfl)
  simp only [List.setIfInBounds_toArray, List.set_cons_zero, List.set_cons_succ]
  refine plan_take (v := ?_) rfl (by rfl) ?_ ?_
  rotate_left
  · intro _ hSw; (try dsimp only at hSw); go_simp; (try with_reducible rfl)
  simp only [List.setIfInBounds_toArray, List.set_cons_zero, List.set_cons_succ]
  refine plan_take (v := ?_) rfl (by rfl) ?_ ?_
  rotate_left
  · intro _ hSw; (try dsimp only at hSw); have hx2 := hSw.p5.cell 0; go_simp; (try with_reducible rfl)
  simp only [List.setIfInBounds_toArray, List.set_cons_zero, List.set_cons_succ]
  refine plan_take (v := ?_) rfl (by rfl) ?_ ?_
  rotate_left
  · intro _ hSw; (try dsimp only at hSw); go_simp; (try with_reducible rfl)
  simp only [List.setIfInBounds_toArray, List.set_cons_zero, List.set_cons_succ]
  refine plan_take (v := ?_) rfl (by rfl) ?_ ?_
  rotate_left
  · intro _ hSw; (try dsimp only at hSw); have hx2 := hSw.p9.cell 0; go_simp; (try with_reducible rfl)
  simp only [List.setIfInBounds_toArray, List.set_cons_zero, List.set_cons_succ]
  refine plan_take (v := ?_) rfl (by rfl) ?_ ?_
  rotate_left
  · intro _ hSw; (try dsimp only at hSw); go_simp; (try with_reducible rfl)
  simp only [List.setIfInBounds_toArray, List.set_cons_zero, List.set_cons_succ]
  refine plan_take (v := ?_) rfl (by rfl) ?_ ?_
  rotate_left
  · intro _ hSw; (try dsimp only at hSw); go_simp; (try with_reducible rfl)
  simp only [List.setIfInBounds_toArray, List.set_cons_zero, List.set_cons_succ]
  refine plan_take (v := ?_) rfl (by rfl) ?_ ?_
  rotate_left
  · intro _ hSw; (try dsimp only at hSw); go_simp; (try with_reducible rfl)
  simp only [List.setIfInBounds_toArray, List.set_cons_zero, List.set_cons_succ]
  (refine hPE _ _ ?_; simp only [List.drop_succ_cons, List.drop_zero]; clear hPE PE)
  clear HS
  generalize ((w1.alloc (.cells #[.int .i64 ca, .bool en, .int .i64 cz, .int .i64 q, .int .i64 l, .int .i64 f, .int .i64 fr, .int .i64 p, .int .i64 g] 74)).alloc (.cells #[.int .i64 cz, .int .i64 q, .int .i64 l, .int .i64 f, .int .i64 fr, .int .i64 p, .int .i64 g] 35)).drew = Y at HBX Q5 Q8 Q9 QR ⊢
  have HNE := Lib.hid (show w.heap.size ≠ b8 ∧ rm ≠ b8 from ⟨Nat.ne_of_lt HLE.out, fun e => by obtain ⟨v, hx, _⟩ := H.out; exact Nat.ne_of_lt (Nat.lt_trans hx.lt HLE.out) e⟩)
  have n0 := Q5.out.cell 0; have n1 := Q5.out.cell 1; have n2 := Q5.out.cell 2; have n3 := Q5.out.cell 3; have n4 := Q5.out.cell 4; have n5 := Q5.out.cell 5; have n6 := Q5.out.cell 6
  have m2 := Q8.out.cell 2; have m3 := Q8.out.cell 3; have m4 := Q8.out.cell 4; have m5 := Q8.out.cell 5; have m6 := Q8.out.cell 6; have m7 := Q8.out.cell 7; have m8 := Q8.out.cell 8
  have f2 := Q8.out.frozen 2; have f3 := Q8.out.frozen 3; have f4 := Q8.out.frozen 4; have f5 := Q8.out.frozen 5; have f6 := Q8.out.frozen 6; have f7 := Q8.out.frozen 7; have f8 := Q8.out.frozen 8
  have hZ8 : Blk (((((((Y.setCell ⟨b8, 2, none⟩ (.int .i64 sc)).setCell ⟨b8, 3, none⟩ (.int .i64 sq)).setCell ⟨b8, 4, none⟩ (.int .i64 sl)).setCell ⟨b8, 5, none⟩ (.int .i64 sf)).setCell ⟨b8, 6, none⟩ (.int .i64 sfr)).setCell ⟨b8, 7, none⟩ (.int .i64 sp)).setCell ⟨b8, 8, none⟩ (.int .i64 sg)) b8 74 #[.int .i64 ca, .bool en, .int .i64 sc, .int .i64 sq, .int .i64 sl, .int .i64 sf, .int .i64 sfr, .int .i64 sp, .int .i64 sg] := set7_at2 Q8.out _ _ _ _ _ _ _
  have hZ5 : Blk (((((((Y.setCell ⟨b8, 2, none⟩ (.int .i64 sc)).setCell ⟨b8, 3, none⟩ (.int .i64 sq)).setCell ⟨b8, 4, none⟩ (.int .i64 sl)).setCell ⟨b8, 5, none⟩ (.int .i64 sf)).setCell ⟨b8, 6, none⟩ (.int .i64 sfr)).setCell ⟨b8, 7, none⟩ (.int .i64 sp)).setCell ⟨b8, 8, none⟩ (.int .i64 sg)) w.heap.size 35 #[.int .i64 sc, .int .i64 sq, .int .i64 sl, .int .i64 sf, .int .i64 sfr, .int .i64 sp, .int .i64 sg] := set7_far Q5.out HNE.out.1 _ _ _ _ _ _ _
  have hZB : Below w.heap.size w (((((((Y.setCell ⟨b8, 2, none⟩ (.int .i64 sc)).setCell ⟨b8, 3, none⟩ (.int .i64 sq)).setCell ⟨b8, 4, none⟩ (.int .i64 sl)).setCell ⟨b8, 5, none⟩ (.int .i64 sf)).setCell ⟨b8, 6, none⟩ (.int .i64 sfr)).setCell ⟨b8, 7, none⟩ (.int .i64 sp)).setCell ⟨b8, 8, none⟩ (.int .i64 sg)) := set7_bel HBX.out (Nat.le_of_lt HLE.out) _ _ _ _ _ _ _
  have P8 := Lib.hid hZ8; have P5 := Lib.hid hZ5; have PB := Lib.hid hZB
  clear hZ8 hZ5 hZB
  have CC : Hid (∀ Z, Blk Z b8 74 #[.int .i64 ca, .bool en, .int .i64 sc, .int .i64 sq, .int .i64 sl, .int .i64 sf, .int .i64 sfr, .int .i64 sp, .int .i64 sg] → RAt Z rm rt base c L → Calls Tryz.prog 53 #[.pointer (some ⟨rm, 0, none⟩), .pointer (some ⟨b8, 0, none⟩)] Z fun e w' => (∃ u, e = .returned u) ∧ w' = (((Z.setCell ⟨b8, 0 + 4, none⟩ (.int .i64 sl)).drew).setCell ⟨b8, 0 + 5, none⟩ (.int .i64 fw)).drew) := Lib.hid fun Z hz hr => by
    have h3 : Z.cell? ⟨rm, 3, none⟩ = some (.int .i64 c.room) := by obtain ⟨v, hx, _⟩ := hr; exact hx.cell 3
    exact ref29_counts Z rm b8 0 ca sg c.room sl sf sl fw d8 (hz.cell 0) (hz.cell 8) (hz.cell 4) (hz.cell 5) h3 (fun j => hz.frozen j) HNE.out.2 HE8.out HA.out.1 HA.out.2.1 HA.out.2.2.1 HA.out.2.2.2.1 HA.out.2.2.2.2
  have HC6 : Hid (∀ W : World, Below w.heap.size w W → W.cell? ⟨rm, 6, none⟩ = w.cell? ⟨rm, 6, none⟩) := Lib.hid fun W hW => hW.cell (by obtain ⟨v, hx, _⟩ := H.out; exact hx.lt)
  obtain ⟨g0, cap0, c60, _, _, hfz0⟩ := H.out.cells HL.out
  have HG := Lib.hid c60
  clear c6 hgg hfz c60 hfz0
  go_wp2_with (go_at_call 53; refine (CC.out _ P8.out (H.out.later PB.out)).mono ?_; rintro e w3 ⟨⟨u, rfl⟩, hw3⟩; have hz8 : Blk w3 b8 74 #[.int .i64 ca, .bool en, .int .i64 sc, .int .i64 sq, .int .i64 sl, .int .i64 fw, .int .i64 sfr, .int .i64 sp, .int .i64 sg] := by { rw [hw3]; exact (((P8.out.set_ 4 _).drew').set_ 5 _).drew' }; have hz5 : Blk w3 w.heap.size 35 #[.int .i64 sc, .int .i64 sq, .int .i64 sl, .int .i64 sf, .int .i64 sfr, .int .i64 sp, .int .i64 sg] := by { rw [hw3]; exact (((P5.out.far (p := ⟨b8, 0 + 4, none⟩) HNE.out.1 _).drew').far (p := ⟨b8, 0 + 5, none⟩) HNE.out.1 _).drew' }; have hzb : Below w.heap.size w w3 := by { rw [hw3]; exact (((PB.out.setCell (p := ⟨b8, 0 + 4, none⟩) (Nat.le_of_lt HLE.out) _).drew).setCell (p := ⟨b8, 0 + 5, none⟩) (Nat.le_of_lt HLE.out) _).drew }; have y0 := hz8.cell 0; have y1 := hz8.cell 1; have y2 := hz8.cell 2; have y3 := hz8.cell 3; have y4 := hz8.cell 4; have y5 := hz8.cell 5; have y6 := hz8.cell 6; have y7 := hz8.cell 7; have y8 := hz8.cell 8; have z0 := hz5.cell 0; have z1 := hz5.cell 1; have z2 := hz5.cell 2; have z3 := hz5.cell 3; have z4 := hz5.cell 4; have z5 := hz5.cell 5; have z6 := hz5.cell 6; have U8 := Lib.hid hz8; have UB := Lib.hid hzb; clear hw3 hz8 hz5 hzb)
  go_returns
  exact ⟨rfl, H.out.later UB.out, RFq.of_below UB.out⟩
end Go.Proofs.YtklelheejopfmaaGreat
namespace Go.Proofs.YtklelheejopfmaaGreat
open Go Go.RowKit Go.Maps
attribute [local go_sem] Oper.semAt_some
theorem see_arith {ca sg g room d8 : Int} (h1 : 0 ≤ ca) (h2 : ca ≤ 2 ^ 45) (h3 : 0 ≤ g) (h4 : g ≤ sg) (h5 : sg ≤ 8 * ca) (h6 : 1024 ≤ room) (h7 : room ≤ 1048576) (h8 : sg.tdiv 8 = d8) : wrap64 d8 = d8 ∧ wrap64 (room - ca) = room - ca := by
  rw [Int.tdiv_eq_ediv_of_nonneg (by omega)] at h8
  exact ⟨wrap64_id (by omega) (by omega), wrap64_id (by omega) (by omega)⟩
theorem see_no {c : Cfg} {L : List Ent} {id : Int} {s k : Kn} (ha : atL L id = some (0, k)) (h : ¬ SeeOk c k.came k.cause k.pics k.gone s.cause s.queued s.left s.free s.frames s.pics s.gone) : onL L id (seeF c s) = (0, 2, L) := by
  have h1 : (seeF c s k).2.1 = 2 := by unfold seeF; dsimp only; rw [if_neg h]
  rw [onL_no ha (by rw [h1]; decide), h1]
theorem see_yes29 {c : Cfg} {L : List Ent} {id : Int} {s k : Kn} (ha : atL L id = some (0, k)) (h : SeeOk c k.came k.cause k.pics k.gone s.cause s.queued s.left s.free s.frames s.pics s.gone) : onL L id (seeF c s) = (0, 0, L.set (id - 1).toNat (0, { s with came := k.came, ended := k.ended })) := by
  have h1 : (seeF c s k) = (0, 0, { s with came := k.came, ended := k.ended }) := by unfold seeF; rw [if_pos h]
  rw [onL_ok ha (by rw [h1]), h1]
theorem ref29_See (w : World) (rm rt base : Nat) (c : Cfg) (L : List Ent) (h : RAt w rm rt base c L) {B : Int} (hk : ∀ x ∈ L, KnOk c B x.2) (hc : CfgOk c) (hB : B ≤ 2 ^ 45) (id : Int) (hw : (Lit.int .i64 id).wf = true) (s : Kn) :
    Calls Tryz.prog 31 #[.pointer (some ⟨rm, 0, none⟩), .int .i64 id, s.seen] w fun e w' => e = .returned (.int .i64 (onL L id (seeF c s)).2.1) ∧ RAt w' rm rt base c (onL L id (seeF c s)).2.2 ∧ RFq T29 base w w' := by
  by_cases hy : whyF L id = 0
  · obtain ⟨k, ha⟩ := why_live hy
    obtain ⟨i, rfl, e0, hi, hL⟩ := ix_of ha
    have hko := hk (0, k) (List.mem_of_getElem? hL)
    obtain ⟨ca, en, cz, q, l, f, fr, p, g⟩ := k
    obtain ⟨x1, x2, sc, sq, sl, sf, sfr, sp, sg⟩ := s
    obtain ⟨b1, b2, b3, b4, _⟩ := hko
    dsimp only at b1 b2 b3 b4
    have h8 : wrap64 (8 * ca) = 8 * ca := wrap64_id (by omega) (by omega)
    by_cases hw1 : g ≤ sg ∧ sg ≤ 8 * ca
    rotate_left
    · rw [see_no ha (fun hs => hw1 hs.2.1)]
      exact see29_f1 w rm rt base c L h i ca en cz q l f fr p g sc sq sl sf sfr sp sg hL hw h8 hw1
    by_cases hw2 : 0 ≤ sq ∧ sq ≤ c.slots
    rotate_left
    · rw [see_no ha (fun hs => hw2 hs.2.2.1)]
      exact see29_f2 w rm rt base c L h i ca en cz q l f fr p g sc sq sl sf sfr sp sg hL hw h8 hw1 hw2
    by_cases hw3 : 0 ≤ sfr ∧ sfr ≤ c.quota
    rotate_left
    · rw [see_no ha (fun hs => hw3 hs.2.2.2.1)]
      exact see29_f3 w rm rt base c L h i ca en cz q l f fr p g sc sq sl sf sfr sp sg hL hw h8 hw1 hw2 hw3
    by_cases hlt : sp < p
    · rw [see_no ha (fun hs => hs.2.2.2.2.1 hlt)]
      exact see29_f4 w rm rt base c L h i ca en cz q l f fr p g sc sq sl sf sfr sp sg hL hw h8 hw1 hw2 hw3 hlt
    obtain ⟨d8, e3⟩ : ∃ d8, sg.tdiv 8 = d8 := ⟨_, rfl⟩
    obtain ⟨e4, e5⟩ := see_arith b3 (by omega) b1 hw1.1 hw1.2 hc.2.2.2.2.2.2.1 hc.2.2.2.2.2.2.2.1 e3
    obtain ⟨lw, e2⟩ : ∃ lw, wrap64 (8 * ca - sg) = lw := ⟨_, rfl⟩
    obtain ⟨fw, e6⟩ : ∃ fw, wrap64 (c.room - ca + d8) = fw := ⟨_, rfl⟩
    have hq1 : wrap64 (wrap64 (8 * ca) - sg) = lw := by rw [h8]; exact e2
    have hq2 : wrap64 (wrap64 (c.room - ca) + wrap64 (sg.tdiv 8)) = fw := by rw [e5, e3, e4]; exact e6
    by_cases hcz : cz = 0
    · by_cases hl : lw = sl
      rotate_left
      · rw [see_no ha (fun hs => hl (hq1.symm.trans hs.1.1))]
        exact see29_pa0 w rm rt base c L h i ca en cz q l f fr p g sc sq sl sf sfr sp sg hL hw h8 hw1 hw2 hw3 hlt hcz lw fw d8 e2 e3 e4 e5 e6 hl
      subst hl
      by_cases hf : fw = sf
      rotate_left
      · rw [see_no ha (fun hs => hf (hq2.symm.trans hs.1.2))]
        exact see29_pa2 w rm rt base c L h i ca en cz q l f fr p g sc sq lw sf sfr sp sg hL hw h8 hw1 hw2 hw3 hlt hcz fw d8 e2 e3 e4 e5 e6 hf
      subst hf
      rw [see_yes29 ha ⟨⟨hq1, hq2⟩, hw1, hw2, hw3, hlt, fun hs => hs.1 hcz⟩, e0]
      exact see29_pa1 w rm rt base c L h i ca en cz q l f fr p g sc sq lw fw sfr sp sg hL hw h8 hw1 hw2 hw3 hlt hcz d8 e2 e3 e4 e5 e6
    · by_cases hsc : sc = cz
      rotate_left
      · rw [see_no ha (fun hs => hs.2.2.2.2.2 ⟨hcz, hsc⟩)]
        exact see29_f5 w rm rt base c L h i ca en cz q l f fr p g sc sq sl sf sfr sp sg hL hw h8 hw1 hw2 hw3 hlt hcz hsc
      by_cases hl : lw = sl
      rotate_left
      · rw [see_no ha (fun hs => hl (hq1.symm.trans hs.1.1))]
        exact see29_pb0 w rm rt base c L h i ca en cz q l f fr p g sc sq sl sf sfr sp sg hL hw h8 hw1 hw2 hw3 hlt hcz hsc lw fw d8 e2 e3 e4 e5 e6 hl
      subst hl
      by_cases hf : fw = sf
      rotate_left
      · rw [see_no ha (fun hs => hf (hq2.symm.trans hs.1.2))]
        exact see29_pb2 w rm rt base c L h i ca en cz q l f fr p g sc sq lw sf sfr sp sg hL hw h8 hw1 hw2 hw3 hlt hcz hsc fw d8 e2 e3 e4 e5 e6 hf
      subst hf
      rw [see_yes29 ha ⟨⟨hq1, hq2⟩, hw1, hw2, hw3, hlt, fun hs => hs.2 hsc⟩, e0]
      exact see29_pb1 w rm rt base c L h i ca en cz q l f fr p g sc sq lw fw sfr sp sg hL hw h8 hw1 hw2 hw3 hlt hcz hsc d8 e2 e3 e4 e5 e6
  · rw [onL_why hy]
    have hb0 : Below w.heap.size w (w.alloc (.cells #[.int .i64 s.cause, .int .i64 s.queued, .int .i64 s.left, .int .i64 s.free, .int .i64 s.frames, .int .i64 s.pics, .int .i64 s.gone] 35)) := (Below.refl _ _).alloc (Nat.le_refl _) _
    have CR := Lib.hid (ref29_refuses _ rm rt base c L (h.later hb0) id hw)
    have H := Lib.hid h
    have HB0 := Lib.hid hb0
    have hyb : (whyF L id != 0) = true := bne_iff_ne.2 hy
    clear h hk hc hB hw hy hb0
    go_enter Tryz.func31, Tryz.ntmps31
    go_wp2_with (go_at_call 52; refine CR.out.mono ?_; rintro e w1 ⟨rfl, hb1⟩; have HB1 := Lib.hid (HB0.out.trans (hb1.mono HB0.out.size)); clear hb1)
    go_returns
    exact ⟨rfl, H.out.later HB1.out, RFq.of_below HB1.out⟩
end Go.Proofs.YtklelheejopfmaaGreat
namespace Go.Proofs.YtklelheejopfmaaGreat
open Go Go.RowKit Go.Maps
attribute [local go_sem] Oper.semAt_some
/-- the holders that are not to come any more -/
def holdF (left : Lit → Bool) : Nat → List Ent → List Hd
  | _, [] => []
  | s, x :: L => (if x.1 = 0 ∧ left (keyI ((s : Int) + 1)) = false then [((s : Int) + 1, x.2.frames)] else []) ++ holdF left (s + 1) L
/-- all holders -/
def allH (L : List Ent) : List Hd := (liveK L).map fun id => (id, frOf L id)
theorem holdF_congr {l1 l2 : Lit → Bool} : ∀ (L : List Ent) (s : Nat), (∀ i : Nat, i < L.length → l1 (keyI ((s + i : Nat) + 1)) = l2 (keyI ((s + i : Nat) + 1)) ∨ L[i]?.map (·.1) ≠ some 0) → holdF l1 s L = holdF l2 s L
  | [], s, _ => rfl
  | x :: L, s, h => by
    have ih := holdF_congr L (s + 1) (fun i hi => by
      have h1 := h (i + 1) (by simpa using hi)
      rw [List.getElem?_cons_succ] at h1
      have e : s + (i + 1) = s + 1 + i := by omega
      rw [e] at h1
      exact h1)
    have h0 := h 0 (by simp)
    rw [holdF, holdF, ih]
    congr 1
    rw [Nat.add_zero, List.getElem?_cons_zero] at h0
    rcases h0 with h0 | h0
    · rw [h0]
    · have h1 : x.1 ≠ 0 := fun e => h0 (by simp [e])
      rw [if_neg (fun e => h1 e.1), if_neg (fun e => h1 e.1)]
theorem holdF_strike (left : Lit → Bool) : ∀ (L : List Ent) (s i : Nat) (k : Kn), L[i]? = some (0, k) → left (keyI ((s + i : Nat) + 1)) = true →
    (holdF (fun z => left z && !z.sameKey (keyI ((s + i : Nat) + 1))) s L).Perm ((((s + i : Nat) : Int) + 1, k.frames) :: holdF left s L)
  | [], s, i, k, h, _ => by simp at h
  | x :: L, s, 0, k, h, hl => by
    rw [List.getElem?_cons_zero] at h
    cases h
    rw [holdF, holdF]
    have h1 := holdF_congr (l1 := fun z => left z && !z.sameKey (keyI ((s + 0 : Nat) + 1))) (l2 := left) L (s + 1) (fun i hi => .inl (by
      show (left _ && !(keyI _).sameKey (keyI _)) = _
      rw [sameKey_I]
      have : decide (((s + 1 + i : Nat) : Int) + 1 = ((s + 0 : Nat) : Int) + 1) = false := decide_eq_false (by omega)
      rw [this, Bool.not_false, Bool.and_true]))
    rw [h1]
    rw [Nat.add_zero] at hl ⊢
    have h2 : (left (keyI ((s : Int) + 1)) && !(keyI ((s : Int) + 1)).sameKey (keyI ((s : Int) + 1))) = false := by rw [sameKey_I]; simp
    have h3 : (left (keyI ((s : Int) + 1))) = true := hl
    rw [h2, h3, if_pos ⟨rfl, rfl⟩, if_neg (by simp)]
    exact List.Perm.refl _
  | x :: L, s, i + 1, k, h, hl => by
    rw [List.getElem?_cons_succ] at h
    have e : s + (i + 1) = s + 1 + i := by omega
    rw [e] at hl ⊢
    have ih := holdF_strike left L (s + 1) i k h hl
    rw [holdF, holdF]
    have h1 : (keyI ((s : Int) + 1)).sameKey (keyI (((s + 1 + i : Nat) : Int) + 1)) = false := by rw [sameKey_I]; simp; omega
    rw [h1, Bool.not_false, Bool.and_true]
    exact (List.Perm.append_left _ ih).trans List.perm_middle
theorem holdF_start (L : List Ent) : holdF (Maps.has (numD gL L)) 0 L = [] := by
  suffices ∀ (M : List Ent) (s : Nat), (∀ i : Nat, i < M.length → M[i]?.map (·.1) = some 0 → Maps.has (numD gL L) (keyI ((s + i : Nat) + 1)) = true) → holdF (Maps.has (numD gL L)) s M = [] from this L 0 (fun i hi h => by
    rw [Nat.zero_add]
    show Maps.has (numD gL L) (.int .i64 _) = true
    rw [numD_has, if_pos (by omega)]
    have e : (((i : Int) + 1 - 1)).toNat = i := by omega
    rw [e]
    cases hx : L[i]? with
    | none => rw [hx] at h; simp at h
    | some x =>
      rw [hx] at h
      have h1 : x.1 = 0 := by simpa using h
      show (gL x).isSome = true
      unfold gL
      rw [if_pos h1]; rfl)
  intro M
  induction M with
  | nil => intro s _; rfl
  | cons x M ih =>
    intro s h
    rw [holdF, ih (s + 1) (fun i hi hx => by
      have h1 := h (i + 1) (by simpa using hi) (by rw [List.getElem?_cons_succ]; exact hx)
      have e : s + (i + 1) = s + 1 + i := by omega
      rw [e] at h1
      exact h1)]
    have h0 := h 0 (by simp)
    rw [Nat.add_zero, List.getElem?_cons_zero] at h0
    by_cases hx : x.1 = 0
    · have h1 := h0 (by simp [hx])
      rw [if_neg (fun e => by rw [h1] at e; cases e.2)]; rfl
    · rw [if_neg (fun e => hx e.1)]; rfl
theorem holdF_all (L : List Ent) : holdF (fun _ => false) 0 L = allH L := by
  unfold allH liveK
  suffices ∀ (M pre : List Ent), L = pre ++ M → holdF (fun _ => false) pre.length M = (numK gL pre.length M).map fun id => (id, frOf L id) from this L [] rfl
  intro M
  induction M with
  | nil => intro pre _; rfl
  | cons x M ih =>
    intro pre hL
    have ih2 := ih (pre ++ [x]) (by rw [hL]; simp)
    rw [List.length_append, List.length_singleton] at ih2
    rw [numK, holdF, List.map_append, ih2]
    congr 1
    have hat : atL L ((pre.length : Int) + 1) = some x := by
      have hl : pre.length < L.length := by rw [hL]; simp
      rw [atL_nat hl]
      congr 1
      simp [hL]
    by_cases hx : x.1 = 0
    · have h1 : (gL x).isSome = true := by unfold gL; rw [if_pos hx]; rfl
      rw [if_pos h1, if_pos ⟨hx, rfl⟩]
      simp [frOf, hat]
    · have h1 : (gL x).isSome = false := by unfold gL; rw [if_neg hx]; rfl
      rw [if_neg (fun e => hx e.1), if_neg (by rw [h1]; decide)]
      rfl
theorem allH_ids (L : List Ent) : (allH L).map (·.1) = liveK L := by
  unfold allH
  rw [List.map_map]
  exact List.map_id _
theorem live_nodup (L : List Ent) : (liveK L).Nodup := (numK_rising L 0).imp (fun h => by omega)
theorem fr_bounds {L : List Ent} {c : Cfg} {B : Int} (hk : ∀ x ∈ L, KnOk c B x.2) (hc : CfgOk c) : ∀ x ∈ liveK L, 0 ≤ frOf L x ∧ frOf L x ≤ 64 := fun x hx => by
  obtain ⟨k, hat⟩ := live_at hx
  obtain ⟨i, _, _, _, hL⟩ := ix_of hat
  have h1 := hk (0, k) (List.mem_of_getElem? hL)
  have h2 := h1.2.2.2.2.2.2.2.2.1
  have h3 := h1.2.2.2.2.2.2.2.2.2
  have h4 := hc.2.2.2.2.2.1
  have h5 := hc.2.2.2.1
  unfold frOf
  rw [hat]
  show 0 ≤ k.frames ∧ k.frames ≤ 64
  dsimp only at h2 h3
  omega
theorem allH_ok {L : List Ent} {c : Cfg} {B : Int} (hk : ∀ x ∈ L, KnOk c B x.2) (hc : CfgOk c) (hs : ((liveK L).length : Int) ≤ c.sess) : HdOk (allH L) := by
  refine ⟨?_, ?_, ?_⟩
  · have h1 : (allH L).length = (liveK L).length := by simp [allH]
    have := hc.2.1
    omega
  · intro h hm
    obtain ⟨id, hid, rfl⟩ := List.mem_map.1 hm
    obtain ⟨k, hat⟩ := live_at hid
    exact ⟨(atL_wf hat).1, (fr_bounds hk hc id hid).1, (fr_bounds hk hc id hid).2⟩
  · rw [allH_ids]; exact live_nodup L
theorem HdOk.perm {hs hs' : List Hd} (h : HdOk hs) (hp : hs'.Perm hs) : HdOk hs' := ⟨by rw [hp.length_eq]; exact h.1, fun x hx => h.2.1 x (hp.mem_iff.1 hx), (hp.map _).nodup_iff.2 h.2.2⟩
theorem allF_bounds {L : List Ent} {c : Cfg} {B : Int} (hk : ∀ x ∈ L, KnOk c B x.2) (hc : CfgOk c) (hs : ((liveK L).length : Int) ≤ c.sess) : 0 ≤ allF L ∧ allF L ≤ 4096 := by
  have h1 := sum_bound (l := liveK L) (f := frOf L) (fr_bounds hk hc)
  rw [allF_sum] at h1
  have := hc.2.1
  omega
def evict1 (L : List Ent) (id : Int) : List Ent := match atL L id with
  | some x => L.set (id - 1).toNat (22, x.2)
  | none => L
def evictL (L : List Ent) (ids : List Int) : List Ent := ids.foldl evict1 L
theorem evict1_live {L : List Ent} {id : Int} {k : Kn} (h : atL L id = some (0, k)) : evict1 L id = L.set (id - 1).toNat (22, k) := by unfold evict1; rw [h]
theorem evict1_at {L : List Ent} {id id2 : Int} (hne : id2 ≠ id) : atL (evict1 L id) id2 = atL L id2 := by
  unfold evict1
  cases h : atL L id with
  | none => rfl
  | some x =>
    dsimp only
    have h1 := atL_wf h
    unfold atL
    split
    · rename_i h2
      rw [List.getElem?_set_ne (by omega)]
    · rfl
theorem evictL_at {ids : List Int} : ∀ {L : List Ent} {id : Int}, id ∉ ids → atL (evictL L ids) id = atL L id := by
  induction ids with
  | nil => intro L id _; rfl
  | cons x ids ih =>
    intro L id h
    have h1 : id ≠ x := fun e => h (by rw [e]; simp)
    have h2 : id ∉ ids := fun e => h (List.mem_cons_of_mem _ e)
    show atL (evictL (evict1 L x) ids) id = _
    rw [ih h2, evict1_at h1]
theorem evictL_take {L : List Ent} {ids : List Int} {i : Nat} (h : i < ids.length) : evictL L (ids.take (i + 1)) = evict1 (evictL L (ids.take i)) ids[i] := by
  unfold evictL
  rw [List.take_succ_eq_append_getElem h, List.foldl_append]
  rfl
theorem planOut_sub : ∀ (V : List Hd) (free want : Int), (planOut V free want).Sublist (V.map (·.1))
  | [], _, _ => List.Sublist.refl _
  | v :: V, free, want => by
    unfold planOut
    split
    · exact List.nil_sublist _
    · exact List.Sublist.cons_cons _ (planOut_sub V _ want)
/-- those of a plan are live, and no two are one. -/
theorem plan_live {L : List Ent} {V : List Hd} (hV : Vict V (allH L)) (free want : Int) : (planOut V free want).Nodup ∧ (∀ id ∈ planOut V free want, id ∈ liveK L) ∧ (planOut V free want).length ≤ (liveK L).length := by
  have h1 := planOut_sub V free want
  have h2 : (V.map (·.1)).Perm (((allH L).filter (fun h => decide (0 < h.2))).map (·.1)) := hV.2.map _
  have h3 : (((allH L).filter (fun h => decide (0 < h.2))).map (·.1)).Sublist ((allH L).map (·.1)) := List.filter_sublist.map _
  rw [allH_ids] at h3
  refine ⟨h1.nodup (h2.nodup_iff.2 (h3.nodup (live_nodup L))), fun id hid => h3.subset (h2.mem_iff.1 (h1.subset hid)), ?_⟩
  have h4 := h1.length_le
  have h5 := h2.length_eq
  have h6 := h3.length_le
  omega
theorem evict_kn {c : Cfg} {B : Int} : ∀ {ids : List Int} {L : List Ent}, (∀ x ∈ L, KnOk c B x.2) → ∀ x ∈ evictL L ids, KnOk c B x.2 := by
  intro ids
  induction ids with
  | nil => intro L h; exact h
  | cons y ids ih =>
    intro L h
    refine ih (L := evict1 L y) (fun x hx => ?_)
    unfold evict1 at hx
    cases ha : atL L y with
    | none => rw [ha] at hx; exact h x hx
    | some z =>
      rw [ha] at hx
      dsimp only at hx
      rcases List.mem_or_eq_of_mem_set hx with h1 | rfl
      · exact h x h1
      · unfold atL at ha
        split at ha
        · exact h z (List.mem_of_getElem? ha)
        · cases ha
end Go.Proofs.YtklelheejopfmaaGreat
