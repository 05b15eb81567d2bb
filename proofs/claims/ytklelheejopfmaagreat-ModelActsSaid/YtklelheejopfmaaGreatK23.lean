/- SeeA -/
import Derived.Test.YtklelheejopfmaaGreatK22
namespace Go.Proofs.YtklelheejopfmaaGreat
open Go Go.RowKit Go.Maps
attribute [local go_sem] Oper.semAt_some
set_option maxRecDepth 100000 in
set_option maxHeartbeats 8000000 in
theorem see_c1 (w : World) (bm bt tb lb bn bp : Nat) (c : Cfg) (B : Int) (L : List Ent) (h : MAt w bm bt tb lb c B L) (ca : Int) (en : Bool) (cz q l f fr p g sc sq sl sf sfr sp sg lw fw : Int) (hk : KnOk c B ⟨ca, en, cz, q, l, f, fr, p, g⟩)
    (hn : Blk w bn 35 #[.int .i64 sc, .int .i64 sq, .int .i64 sl, .int .i64 sf, .int .i64 sfr, .int .i64 sp, .int .i64 sg]) (hp : Blk w bp 25 #[.pointer (some ⟨bm, 0, none⟩)]) (hlw : wrap64 (wrap64 (8 * ca) - sg) = lw) (hfw : wrap64 (wrap64 (c.room - ca) + wrap64 (sg.tdiv 8)) = fw) (a1 : ¬ lw = sl) :
    Calls Tryz.prog 44 #[.agg #[.int .i64 ca, .bool en, .int .i64 cz, .int .i64 q, .int .i64 l, .int .i64 f, .int .i64 fr, .int .i64 p, .int .i64 g], .pointer (some ⟨bn, 0, none⟩), .pointer (some ⟨bp, 0, none⟩)] w fun e w' =>
      e = .returned (.tuple #[.agg #[.int .i64 ca, .bool en, .int .i64 sc, .int .i64 sq, .int .i64 sl, .int .i64 sf, .int .i64 sfr, .int .i64 sp, .int .i64 sg], .int .i64 0, .int .i64 2]) ∧ Below w.heap.size w w' := by
  have n0 : ∀ o1 o2 o3, (((w.alloc o1).alloc o2).alloc o3).cell? ⟨bn, 0, none⟩ = some (.int .i64 sc) := fun o1 o2 o3 => (((hn.alloc o1).alloc o2).alloc o3).cell 0
  have n1 : ∀ o1 o2 o3, (((w.alloc o1).alloc o2).alloc o3).cell? ⟨bn, 1, none⟩ = some (.int .i64 sq) := fun o1 o2 o3 => (((hn.alloc o1).alloc o2).alloc o3).cell 1
  have n2 : ∀ o1 o2 o3, (((w.alloc o1).alloc o2).alloc o3).cell? ⟨bn, 2, none⟩ = some (.int .i64 sl) := fun o1 o2 o3 => (((hn.alloc o1).alloc o2).alloc o3).cell 2
  have n3 : ∀ o1 o2 o3, (((w.alloc o1).alloc o2).alloc o3).cell? ⟨bn, 3, none⟩ = some (.int .i64 sf) := fun o1 o2 o3 => (((hn.alloc o1).alloc o2).alloc o3).cell 3
  have n4 : ∀ o1 o2 o3, (((w.alloc o1).alloc o2).alloc o3).cell? ⟨bn, 4, none⟩ = some (.int .i64 sfr) := fun o1 o2 o3 => (((hn.alloc o1).alloc o2).alloc o3).cell 4
  have n5 : ∀ o1 o2 o3, (((w.alloc o1).alloc o2).alloc o3).cell? ⟨bn, 5, none⟩ = some (.int .i64 sp) := fun o1 o2 o3 => (((hn.alloc o1).alloc o2).alloc o3).cell 5
  have n6 : ∀ o1 o2 o3, (((w.alloc o1).alloc o2).alloc o3).cell? ⟨bn, 6, none⟩ = some (.int .i64 sg) := fun o1 o2 o3 => (((hn.alloc o1).alloc o2).alloc o3).cell 6
  have p0 : ∀ o1 o2 o3, (((w.alloc o1).alloc o2).alloc o3).cell? ⟨bp, 0, none⟩ = some (.pointer (some ⟨bm, 0, none⟩)) := fun o1 o2 o3 => (((hp.alloc o1).alloc o2).alloc o3).cell 0
  have h8 : wrap64 (8 * ca) = 8 * ca := by
    have h1 := hk.2.2.1
    have h2 := hk.2.2.2.1
    have h3 := h.2.2.2.2.2.2.2
    dsimp only at h1 h2
    exact wrap64_id (by omega) (by omega)
  have h8' : IntKind.i64.wrap (8 * ca) = 8 * ca := by rw [IntKind.wrap_i64]; unfold wrap64 at h8; omega
  have H := Lib.hid h
  have HN := Lib.hid hn
  have HP := Lib.hid hp
  have HLW := Lib.hid hlw
  have HFW := Lib.hid hfw
  have BB := Lib.hid (show Below w.heap.size w (((w.alloc (.cells #[.int .i64 ca, .bool en, .int .i64 sc, .int .i64 sq, .int .i64 sl, .int .i64 sf, .int .i64 sfr, .int .i64 sp, .int .i64 sg] 72)).alloc (.cells #[.int .i64 0, .bool false, .int .i64 0, .int .i64 0, .int .i64 0, .int .i64 0, .int .i64 0, .int .i64 0, .int .i64 0] 72)).alloc (.cells #[.int .i64 cz, .int .i64 q, .int .i64 l, .int .i64 f, .int .i64 fr, .int .i64 p, .int .i64 g] 35)) from (((Below.refl _ _).alloc (Nat.le_refl _) _).alloc (by simp) _).alloc (by simp; omega) _)
  have B0 := Lib.hid (((Blk.new w 72 #[.int .i64 ca, .bool en, .int .i64 sc, .int .i64 sq, .int .i64 sl, .int .i64 sf, .int .i64 sfr, .int .i64 sp, .int .i64 sg]).alloc (.cells #[.int .i64 0, .bool false, .int .i64 0, .int .i64 0, .int .i64 0, .int .i64 0, .int .i64 0, .int .i64 0, .int .i64 0] 72)).alloc (.cells #[.int .i64 cz, .int .i64 q, .int .i64 l, .int .i64 f, .int .i64 fr, .int .i64 p, .int .i64 g] 35))
  have B1 := Lib.hid (((Blk.new (w.alloc (.cells #[.int .i64 ca, .bool en, .int .i64 sc, .int .i64 sq, .int .i64 sl, .int .i64 sf, .int .i64 sfr, .int .i64 sp, .int .i64 sg] 72)) 72 #[.int .i64 0, .bool false, .int .i64 0, .int .i64 0, .int .i64 0, .int .i64 0, .int .i64 0, .int .i64 0, .int .i64 0]).at_eq (World.size_alloc w _)).alloc (.cells #[.int .i64 cz, .int .i64 q, .int .i64 l, .int .i64 f, .int .i64 fr, .int .i64 p, .int .i64 g] 35))
  have B2 := Lib.hid ((Blk.new ((w.alloc (.cells #[.int .i64 ca, .bool en, .int .i64 sc, .int .i64 sq, .int .i64 sl, .int .i64 sf, .int .i64 sfr, .int .i64 sp, .int .i64 sg] 72)).alloc (.cells #[.int .i64 0, .bool false, .int .i64 0, .int .i64 0, .int .i64 0, .int .i64 0, .int .i64 0, .int .i64 0, .int .i64 0] 72)) 35 #[.int .i64 cz, .int .i64 q, .int .i64 l, .int .i64 f, .int .i64 fr, .int .i64 p, .int .i64 g]).at_eq (by simp : ((w.alloc (.cells #[.int .i64 ca, .bool en, .int .i64 sc, .int .i64 sq, .int .i64 sl, .int .i64 sf, .int .i64 sfr, .int .i64 sp, .int .i64 sg] 72)).alloc (.cells #[.int .i64 0, .bool false, .int .i64 0, .int .i64 0, .int .i64 0, .int .i64 0, .int .i64 0, .int .i64 0, .int .i64 0] 72)).heap.size = w.heap.size + 1 + 1))
  clear h hn hp hk hlw hfw
  go_enter Tryz.func44, Tryz.ntmps44
  go_wp2_with (go_at_call 45; refine (mod_counts _ bm bt tb lb c B L (H.out.later BB.out) ⟨ca, en, sc, sq, sl, sf, sfr, sp, sg⟩).mono ?_; rintro e w1 ⟨rfl, hb1⟩; dsimp only [Kn.val]; rw [HLW.out, HFW.out]; have HB1 := Lib.hid hb1; clear hb1 n0 n1 n2 n3 n4 n5 n6 p0)
  have HS1 : Hid (SeeS bn bp bm w.heap.size (w.heap.size + 1 + 1) w1.heap.size bt lb c ca en cz q l f fr p g sc sq sl sf sfr sp sg lw fw (w1.alloc (.cells #[.int .i64 ca, .bool en, .int .i64 sc, .int .i64 sq, .int .i64 lw, .int .i64 fw, .int .i64 sfr, .int .i64 sp, .int .i64 sg] 72))) := Lib.hid ⟨(((HN.out.below BB.out HN.out.lt).below HB1.out (by have h1 := HN.out.lt; have h2 := BB.out.size; omega)).alloc _), (((HP.out.below BB.out HP.out.lt).below HB1.out (by have h1 := HP.out.lt; have h2 := BB.out.size; omega)).alloc _), (((H.out.1.below BB.out H.out.1.lt).below HB1.out (by have h1 := H.out.1.lt; have h2 := BB.out.size; omega)).alloc _), ((B0.out.below HB1.out B0.out.lt).alloc _), ((B2.out.below HB1.out B2.out.lt).alloc _), Blk.new _ _ _⟩
  have HR1 := Lib.hid ((B1.out.below HB1.out B1.out.lt).alloc (.cells #[.int .i64 ca, .bool en, .int .i64 sc, .int .i64 sq, .int .i64 lw, .int .i64 fw, .int .i64 sfr, .int .i64 sp, .int .i64 sg] 72))
  have HBW := Lib.hid ((BB.out.trans (HB1.out.mono BB.out.size)).alloc (by have h2 := BB.out.size; have h3 := HB1.out.size; omega) (.cells #[.int .i64 ca, .bool en, .int .i64 sc, .int .i64 sq, .int .i64 lw, .int .i64 fw, .int .i64 sfr, .int .i64 sp, .int .i64 sg] 72))
  have HLE := Lib.hid (show w.heap.size + 1 < w1.heap.size by have h1 := (B1.out.below HB1.out B1.out.lt).lt; omega)
  clear BB B0 B1 B2 H HN HP HB1
  generalize (w1.alloc (.cells #[.int .i64 ca, .bool en, .int .i64 sc, .int .i64 sq, .int .i64 lw, .int .i64 fw, .int .i64 sfr, .int .i64 sp, .int .i64 sg] 72)) = W at HS1 HR1 HBW ⊢
  generalize w1.heap.size = b3 at HS1 HLE ⊢
  have HS := Lib.hid (show SeeS bn bp bm w.heap.size (w.heap.size + 1 + 1) b3 bt lb c ca en cz q l f fr p g sc sq sl sf sfr sp sg lw fw W.drew from HS1.out)
  have HRR := Lib.hid (show Blk W.drew (w.heap.size + 1) 72 #[.int .i64 0, .bool false, .int .i64 0, .int .i64 0, .int .i64 0, .int .i64 0, .int .i64 0, .int .i64 0, .int .i64 0] from HR1.out)
  have HBD := Lib.hid (HBW.out.drew)
  clear HS1 HR1 HBW
  refine wp_region_plan2 (SeeS bn bp bm w.heap.size (w.heap.size + 1 + 1) b3 bt lb c ca en cz q l f fr p g sc sq sl sf sfr sp sg lw fw) 56 [(0, true), (1, true), (2, true), (3, true), (4, true), (5, true), (6, true), (7, true), (8, true), (9, true), (10, true), (11, true), (12, false), (13, true), (14, true), (15, true), (16, true), (17, true), (18, true), (19, true), (20, true), (21, true), (22, true), (23, false), (24, true), (25, true), (26, true), (27, true), (28, true), (29, true), (30, true), (31, true), (32, true), (33, true), (34, false), (35, true), (36, true), (37, true), (38, true), (39, true), (40, true), (41, true), (42, true), (43, true), (44, true), (45, true), (46, true), (47, true), (48, true), (49, true), (50, true), (51, true), (52, true), (53, true), (54, true), (55, true)] (by kernel_rfl) (by kernel_rfl) (fun _ _ d _ _ h => by cases d <;> exact h) (by decide) (by simp only [List.map_cons, List.map_nil, Array.getD_eq_getD_getElem?, List.getElem?_toArray, List.getElem?_cons_zero, List.getElem?_cons_succ, Option.getD_some]; rfl) (by simp only [List.map_cons, List.map_nil]; rfl) (HS.out) (fun PE hPE => ?_)
  refine plan_take (v := ?_) rfl (by rfl) ?_ ?_
  rotate_left
  · intro _ hSw; (try dsimp only at hSw); go_simp; (try with_reducible rfl)
  simp only [List.setIfInBounds_toArray, List.set_cons_zero, List.set_cons_succ]
  refine plan_take (v := ?_) rfl (by rfl) ?_ ?_
  rotate_left
  · intro _ hSw; (try dsimp only at hSw); have x2 := hSw.2.2.2.2.2.cell 2; have x3 := hSw.2.2.2.2.2.cell 3; have x4 := hSw.2.2.2.2.2.cell 4; have x5 := hSw.2.2.2.2.2.cell 5; have x6 := hSw.2.2.2.2.2.cell 6; have x7 := hSw.2.2.2.2.2.cell 7; have x8 := hSw.2.2.2.2.2.cell 8; go_simp; (try with_reducible rfl)
  simp only [List.setIfInBounds_toArray, List.set_cons_zero, List.set_cons_succ]
  refine plan_take (v := ?_) rfl (by rfl) ?_ ?_
  rotate_left
  · intro _ hSw; (try dsimp only at hSw); have n0 := hSw.1.cell 0; have n1 := hSw.1.cell 1; have n2 := hSw.1.cell 2; have n3 := hSw.1.cell 3; have n4 := hSw.1.cell 4; have n5 := hSw.1.cell 5; have n6 := hSw.1.cell 6; go_simp; (try with_reducible rfl)
  simp only [List.setIfInBounds_toArray, List.set_cons_zero, List.set_cons_succ]
  refine plan_take (v := ?_) rfl (by rfl) ?_ ?_
  rotate_left
  · intro _ hSw; (try dsimp only at hSw); go_simp; (try with_reducible rfl)
  simp only [List.setIfInBounds_toArray, List.set_cons_zero, List.set_cons_succ]
  refine plan_take (v := ?_) rfl (by rfl) ?_ ?_
  rotate_left
  · intro _ hSw; (try dsimp only at hSw); go_simp; (try with_reducible rfl)
  simp only [List.setIfInBounds_toArray, List.set_cons_zero, List.set_cons_succ]
  refine plan_pass rfl (by rfl) ?_
  simp only [List.setIfInBounds_toArray, List.set_cons_zero, List.set_cons_succ]
  refine plan_pass rfl (by rfl) ?_
  simp only [List.setIfInBounds_toArray, List.set_cons_zero, List.set_cons_succ]
  refine plan_pass rfl (by rfl) ?_
  simp only [List.setIfInBounds_toArray, List.set_cons_zero, List.set_cons_succ]
  refine plan_pass rfl (by rfl) ?_
  simp only [List.setIfInBounds_toArray, List.set_cons_zero, List.set_cons_succ]
  refine plan_pass rfl (by rfl) ?_
  simp only [List.setIfInBounds_toArray, List.set_cons_zero, List.set_cons_succ]
  refine plan_pass rfl (by rfl) ?_
  simp only [List.setIfInBounds_toArray, List.set_cons_zero, List.set_cons_succ]
  refine plan_pass rfl (by rfl) ?_
  simp only [List.setIfInBounds_toArray, List.set_cons_zero, List.set_cons_succ]
  refine plan_skip rfl (by rfl) HS.out ?_
  simp only [List.setIfInBounds_toArray, List.set_cons_zero, List.set_cons_succ]
  refine plan_pass rfl (by rfl) ?_
  simp only [List.setIfInBounds_toArray, List.set_cons_zero, List.set_cons_succ]
  refine plan_take (v := ?_) rfl (by rfl) ?_ ?_
  rotate_left
  · intro _ hSw; (try dsimp only at hSw); go_simp; (try with_reducible rfl)
  simp only [List.setIfInBounds_toArray, List.set_cons_zero, List.set_cons_succ]
  refine plan_take (v := ?_) rfl (by rfl) ?_ ?_
  rotate_left
  · intro _ hSw; (try dsimp only at hSw); go_simp; (try with_reducible rfl)
  simp only [List.setIfInBounds_toArray, List.set_cons_zero, List.set_cons_succ]
  refine plan_pass rfl (by rfl) ?_
  simp only [List.setIfInBounds_toArray, List.set_cons_zero, List.set_cons_succ]
  refine plan_pass rfl (by rfl) ?_
  simp only [List.setIfInBounds_toArray, List.set_cons_zero, List.set_cons_succ]
  refine plan_pass rfl (by rfl) ?_
  simp only [List.setIfInBounds_toArray, List.set_cons_zero, List.set_cons_succ]
  refine plan_pass rfl (by rfl) ?_
  simp only [List.setIfInBounds_toArray, List.set_cons_zero, List.set_cons_succ]
  refine plan_pass rfl (by rfl) ?_
  simp only [List.setIfInBounds_toArray, List.set_cons_zero, List.set_cons_succ]
  refine plan_pass rfl (by rfl) ?_
  simp only [List.setIfInBounds_toArray, List.set_cons_zero, List.set_cons_succ]
  refine plan_pass rfl (by rfl) ?_
  simp only [List.setIfInBounds_toArray, List.set_cons_zero, List.set_cons_succ]
  refine plan_skip rfl (by rfl) HS.out ?_
  simp only [List.setIfInBounds_toArray, List.set_cons_zero, List.set_cons_succ]
  refine plan_pass rfl (by rfl) ?_
  simp only [List.setIfInBounds_toArray, List.set_cons_zero, List.set_cons_succ]
  refine plan_take (v := ?_) rfl (by rfl) ?_ ?_
  rotate_left
  · intro _ hSw; (try dsimp only at hSw); go_simp; (try with_reducible rfl)
  simp only [List.setIfInBounds_toArray, List.set_cons_zero, List.set_cons_succ]
  refine plan_take (v := ?_) rfl (by rfl) ?_ ?_
  rotate_left
  · intro _ hSw; (try dsimp only at hSw); go_simp; (try with_reducible rfl)
  simp only [List.setIfInBounds_toArray, List.set_cons_zero, List.set_cons_succ]
  refine plan_pass rfl (by rfl) ?_
  simp only [List.setIfInBounds_toArray, List.set_cons_zero, List.set_cons_succ]
  refine plan_pass rfl (by rfl) ?_
  simp only [List.setIfInBounds_toArray, List.set_cons_zero, List.set_cons_succ]
  refine plan_pass rfl (by rfl) ?_
  simp only [List.setIfInBounds_toArray, List.set_cons_zero, List.set_cons_succ]
  refine plan_pass rfl (by rfl) ?_
  simp only [List.setIfInBounds_toArray, List.set_cons_zero, List.set_cons_succ]
  refine plan_pass rfl (by rfl) ?_
  simp only [List.setIfInBounds_toArray, List.set_cons_zero, List.set_cons_succ]
  refine plan_pass rfl (by rfl) ?_
  simp only [List.setIfInBounds_toArray, List.set_cons_zero, List.set_cons_succ]
  refine plan_pass rfl (by rfl) ?_
  simp only [List.setIfInBounds_toArray, List.set_cons_zero, List.set_cons_succ]
  refine plan_skip rfl (by rfl) HS.out ?_
  simp only [List.setIfInBounds_toArray, List.set_cons_zero, List.set_cons_succ]
  refine plan_pass rfl (by rfl) ?_
  simp only [List.setIfInBounds_toArray, List.set_cons_zero, List.set_cons_succ]
  refine plan_take (v := ?_) rfl (by rfl) ?_ ?_
  rotate_left
  · intro _ hSw; (try dsimp only at hSw); go_simp; (try with_reducible rfl)
  simp only [List.setIfInBounds_toArray, List.set_cons_zero, List.set_cons_succ]
  refine plan_take (v := ?_) rfl (by rfl) ?_ ?_
  rotate_left
  · intro _ hSw; (try dsimp only at hSw); go_simp; (try with_reducible rfl)
  simp only [List.setIfInBounds_toArray, List.set_cons_zero, List.set_cons_succ]
  refine plan_pass rfl (by rfl) ?_
  simp only [List.setIfInBounds_toArray, List.set_cons_zero, List.set_cons_succ]
  refine plan_pass rfl (by rfl) ?_
  simp only [List.setIfInBounds_toArray, List.set_cons_zero, List.set_cons_succ]
  refine plan_pass rfl (by rfl) ?_
  simp only [List.setIfInBounds_toArray, List.set_cons_zero, List.set_cons_succ]
  refine plan_pass rfl (by rfl) ?_
  simp only [List.setIfInBounds_toArray, List.set_cons_zero, List.set_cons_succ]
  refine plan_pass rfl (by rfl) ?_
  simp only [List.setIfInBounds_toArray, List.set_cons_zero, List.set_cons_succ]
  refine plan_take (v := ?_) rfl (by rfl) ?_ ?_
  rotate_left
  · intro _ hSw; (try dsimp only at hSw); go_simp; (try with_reducible rfl)
  simp only [List.setIfInBounds_toArray, List.set_cons_zero, List.set_cons_succ]
  refine plan_take (v := ?_) rfl (by rfl) ?_ ?_
  rotate_left
  · intro _ hSw; (try dsimp only at hSw); go_simp; (try with_reducible rfl)
  simp only [List.setIfInBounds_toArray, List.set_cons_zero, List.set_cons_succ]
  refine plan_pass rfl (by rfl) ?_
  simp only [List.setIfInBounds_toArray, List.set_cons_zero, List.set_cons_succ]
  refine plan_pass rfl (by rfl) ?_
  simp only [List.setIfInBounds_toArray, List.set_cons_zero, List.set_cons_succ]
  refine plan_pass rfl (by rfl) ?_
  simp only [List.setIfInBounds_toArray, List.set_cons_zero, List.set_cons_succ]
  refine plan_pass rfl (by rfl) ?_
  simp only [List.setIfInBounds_toArray, List.set_cons_zero, List.set_cons_succ]
  refine plan_pass rfl (by rfl) ?_
  simp only [List.setIfInBounds_toArray, List.set_cons_zero, List.set_cons_succ]
  refine plan_pass rfl (by rfl) ?_
  simp only [List.setIfInBounds_toArray, List.set_cons_zero, List.set_cons_succ]
  refine plan_pass rfl (by rfl) ?_
  simp only [List.setIfInBounds_toArray, List.set_cons_zero, List.set_cons_succ]
  refine plan_pass rfl (by rfl) ?_
  simp only [List.setIfInBounds_toArray, List.set_cons_zero, List.set_cons_succ]
  refine plan_pass rfl (by rfl) ?_
  simp only [List.setIfInBounds_toArray, List.set_cons_zero, List.set_cons_succ]
  refine plan_pass rfl (by rfl) ?_
  simp only [List.setIfInBounds_toArray, List.set_cons_zero, List.set_cons_succ]
  refine plan_take (v := ?_) rfl (by rfl) ?_ ?_
  rotate_left
  · intro _ hSw; (try dsimp only at hSw); go_simp; (try with_reducible rfl)
  simp only [List.setIfInBounds_toArray, List.set_cons_zero, List.set_cons_succ]
  (refine hPE _ _ ?_; simp only [List.drop_succ_cons, List.drop_zero]; clear hPE PE)
  generalize W.drew = V at HS HRR HBD ⊢
  obtain ⟨⟨n0, n1, n2, n3, n4, n5, n6⟩, p0, m2, m4, ⟨k0, k2, k3, k4, k5, k6, k7, k8⟩, ⟨w0, w1, w2, w3, w4, w5, w6⟩, x2, x3, x4, x5, x6, x7, x8⟩ := HS.out.cells
  have k1 := HS.out.2.2.2.1.cell 1
  have x0 := HS.out.2.2.2.2.2.cell 0
  have x1 := HS.out.2.2.2.2.2.cell 1
  have r0 := HRR.out.cell 0
  have r1 := HRR.out.cell 1
  have r2 := HRR.out.cell 2
  have r3 := HRR.out.cell 3
  have r4 := HRR.out.cell 4
  have r5 := HRR.out.cell 5
  have r6 := HRR.out.cell 6
  have r7 := HRR.out.cell 7
  have r8 := HRR.out.cell 8
  have f0 := HRR.out.frozen 0
  have f1 := HRR.out.frozen 1
  have f2 := HRR.out.frozen 2
  have f3 := HRR.out.frozen 3
  have f4 := HRR.out.frozen 4
  have f5 := HRR.out.frozen 5
  have f6 := HRR.out.frozen 6
  have f7 := HRR.out.frozen 7
  have f8 := HRR.out.frozen 8
  go_wp2_with fail
  have hZ := set9_blk HRR.out (.int .i64 ca) (.bool en) (.int .i64 sc) (.int .i64 sq) (.int .i64 sl) (.int .i64 sf) (.int .i64 sfr) (.int .i64 sp) (.int .i64 sg)
  have z0 := hZ.cell 0; have z1 := hZ.cell 1; have z2 := hZ.cell 2; have z3 := hZ.cell 3; have z4 := hZ.cell 4; have z5 := hZ.cell 5; have z6 := hZ.cell 6; have z7 := hZ.cell 7; have z8 := hZ.cell 8
  refine bodyPost_ret (by simp [results, Tryz.results44, go_sem, z0, z1, z2, z3, z4, z5, z6, z7, z8]; try rfl) rfl ?_
  exact ⟨rfl, set9_below HBD.out (Nat.le_succ _) _ _ _ _ _ _ _ _ _⟩
set_option maxRecDepth 100000 in
set_option maxHeartbeats 8000000 in
theorem see_c2 (w : World) (bm bt tb lb bn bp : Nat) (c : Cfg) (B : Int) (L : List Ent) (h : MAt w bm bt tb lb c B L) (ca : Int) (en : Bool) (cz q l f fr p g sc sq sl sf sfr sp sg fw : Int) (hk : KnOk c B ⟨ca, en, cz, q, l, f, fr, p, g⟩)
    (hn : Blk w bn 35 #[.int .i64 sc, .int .i64 sq, .int .i64 sl, .int .i64 sf, .int .i64 sfr, .int .i64 sp, .int .i64 sg]) (hp : Blk w bp 25 #[.pointer (some ⟨bm, 0, none⟩)]) (hlw : wrap64 (wrap64 (8 * ca) - sg) = sl) (hfw : wrap64 (wrap64 (c.room - ca) + wrap64 (sg.tdiv 8)) = fw) (a2 : ¬ fw = sf) :
    Calls Tryz.prog 44 #[.agg #[.int .i64 ca, .bool en, .int .i64 cz, .int .i64 q, .int .i64 l, .int .i64 f, .int .i64 fr, .int .i64 p, .int .i64 g], .pointer (some ⟨bn, 0, none⟩), .pointer (some ⟨bp, 0, none⟩)] w fun e w' =>
      e = .returned (.tuple #[.agg #[.int .i64 ca, .bool en, .int .i64 sc, .int .i64 sq, .int .i64 sl, .int .i64 sf, .int .i64 sfr, .int .i64 sp, .int .i64 sg], .int .i64 0, .int .i64 2]) ∧ Below w.heap.size w w' := by
  have n0 : ∀ o1 o2 o3, (((w.alloc o1).alloc o2).alloc o3).cell? ⟨bn, 0, none⟩ = some (.int .i64 sc) := fun o1 o2 o3 => (((hn.alloc o1).alloc o2).alloc o3).cell 0
  have n1 : ∀ o1 o2 o3, (((w.alloc o1).alloc o2).alloc o3).cell? ⟨bn, 1, none⟩ = some (.int .i64 sq) := fun o1 o2 o3 => (((hn.alloc o1).alloc o2).alloc o3).cell 1
  have n2 : ∀ o1 o2 o3, (((w.alloc o1).alloc o2).alloc o3).cell? ⟨bn, 2, none⟩ = some (.int .i64 sl) := fun o1 o2 o3 => (((hn.alloc o1).alloc o2).alloc o3).cell 2
  have n3 : ∀ o1 o2 o3, (((w.alloc o1).alloc o2).alloc o3).cell? ⟨bn, 3, none⟩ = some (.int .i64 sf) := fun o1 o2 o3 => (((hn.alloc o1).alloc o2).alloc o3).cell 3
  have n4 : ∀ o1 o2 o3, (((w.alloc o1).alloc o2).alloc o3).cell? ⟨bn, 4, none⟩ = some (.int .i64 sfr) := fun o1 o2 o3 => (((hn.alloc o1).alloc o2).alloc o3).cell 4
  have n5 : ∀ o1 o2 o3, (((w.alloc o1).alloc o2).alloc o3).cell? ⟨bn, 5, none⟩ = some (.int .i64 sp) := fun o1 o2 o3 => (((hn.alloc o1).alloc o2).alloc o3).cell 5
  have n6 : ∀ o1 o2 o3, (((w.alloc o1).alloc o2).alloc o3).cell? ⟨bn, 6, none⟩ = some (.int .i64 sg) := fun o1 o2 o3 => (((hn.alloc o1).alloc o2).alloc o3).cell 6
  have p0 : ∀ o1 o2 o3, (((w.alloc o1).alloc o2).alloc o3).cell? ⟨bp, 0, none⟩ = some (.pointer (some ⟨bm, 0, none⟩)) := fun o1 o2 o3 => (((hp.alloc o1).alloc o2).alloc o3).cell 0
  have h8 : wrap64 (8 * ca) = 8 * ca := by
    have h1 := hk.2.2.1
    have h2 := hk.2.2.2.1
    have h3 := h.2.2.2.2.2.2.2
    dsimp only at h1 h2
    exact wrap64_id (by omega) (by omega)
  have h8' : IntKind.i64.wrap (8 * ca) = 8 * ca := by rw [IntKind.wrap_i64]; unfold wrap64 at h8; omega
  have H := Lib.hid h
  have HN := Lib.hid hn
  have HP := Lib.hid hp
  have HLW := Lib.hid hlw
  have HFW := Lib.hid hfw
  have BB := Lib.hid (show Below w.heap.size w (((w.alloc (.cells #[.int .i64 ca, .bool en, .int .i64 sc, .int .i64 sq, .int .i64 sl, .int .i64 sf, .int .i64 sfr, .int .i64 sp, .int .i64 sg] 72)).alloc (.cells #[.int .i64 0, .bool false, .int .i64 0, .int .i64 0, .int .i64 0, .int .i64 0, .int .i64 0, .int .i64 0, .int .i64 0] 72)).alloc (.cells #[.int .i64 cz, .int .i64 q, .int .i64 l, .int .i64 f, .int .i64 fr, .int .i64 p, .int .i64 g] 35)) from (((Below.refl _ _).alloc (Nat.le_refl _) _).alloc (by simp) _).alloc (by simp; omega) _)
  have B0 := Lib.hid (((Blk.new w 72 #[.int .i64 ca, .bool en, .int .i64 sc, .int .i64 sq, .int .i64 sl, .int .i64 sf, .int .i64 sfr, .int .i64 sp, .int .i64 sg]).alloc (.cells #[.int .i64 0, .bool false, .int .i64 0, .int .i64 0, .int .i64 0, .int .i64 0, .int .i64 0, .int .i64 0, .int .i64 0] 72)).alloc (.cells #[.int .i64 cz, .int .i64 q, .int .i64 l, .int .i64 f, .int .i64 fr, .int .i64 p, .int .i64 g] 35))
  have B1 := Lib.hid (((Blk.new (w.alloc (.cells #[.int .i64 ca, .bool en, .int .i64 sc, .int .i64 sq, .int .i64 sl, .int .i64 sf, .int .i64 sfr, .int .i64 sp, .int .i64 sg] 72)) 72 #[.int .i64 0, .bool false, .int .i64 0, .int .i64 0, .int .i64 0, .int .i64 0, .int .i64 0, .int .i64 0, .int .i64 0]).at_eq (World.size_alloc w _)).alloc (.cells #[.int .i64 cz, .int .i64 q, .int .i64 l, .int .i64 f, .int .i64 fr, .int .i64 p, .int .i64 g] 35))
  have B2 := Lib.hid ((Blk.new ((w.alloc (.cells #[.int .i64 ca, .bool en, .int .i64 sc, .int .i64 sq, .int .i64 sl, .int .i64 sf, .int .i64 sfr, .int .i64 sp, .int .i64 sg] 72)).alloc (.cells #[.int .i64 0, .bool false, .int .i64 0, .int .i64 0, .int .i64 0, .int .i64 0, .int .i64 0, .int .i64 0, .int .i64 0] 72)) 35 #[.int .i64 cz, .int .i64 q, .int .i64 l, .int .i64 f, .int .i64 fr, .int .i64 p, .int .i64 g]).at_eq (by simp : ((w.alloc (.cells #[.int .i64 ca, .bool en, .int .i64 sc, .int .i64 sq, .int .i64 sl, .int .i64 sf, .int .i64 sfr, .int .i64 sp, .int .i64 sg] 72)).alloc (.cells #[.int .i64 0, .bool false, .int .i64 0, .int .i64 0, .int .i64 0, .int .i64 0, .int .i64 0, .int .i64 0, .int .i64 0] 72)).heap.size = w.heap.size + 1 + 1))
  clear h hn hp hk hlw hfw
  go_enter Tryz.func44, Tryz.ntmps44
  go_wp2_with (go_at_call 45; refine (mod_counts _ bm bt tb lb c B L (H.out.later BB.out) ⟨ca, en, sc, sq, sl, sf, sfr, sp, sg⟩).mono ?_; rintro e w1 ⟨rfl, hb1⟩; dsimp only [Kn.val]; rw [HLW.out, HFW.out]; have HB1 := Lib.hid hb1; clear hb1 n0 n1 n2 n3 n4 n5 n6 p0)
  have HS1 : Hid (SeeS bn bp bm w.heap.size (w.heap.size + 1 + 1) w1.heap.size bt lb c ca en cz q l f fr p g sc sq sl sf sfr sp sg sl fw (w1.alloc (.cells #[.int .i64 ca, .bool en, .int .i64 sc, .int .i64 sq, .int .i64 sl, .int .i64 fw, .int .i64 sfr, .int .i64 sp, .int .i64 sg] 72))) := Lib.hid ⟨(((HN.out.below BB.out HN.out.lt).below HB1.out (by have h1 := HN.out.lt; have h2 := BB.out.size; omega)).alloc _), (((HP.out.below BB.out HP.out.lt).below HB1.out (by have h1 := HP.out.lt; have h2 := BB.out.size; omega)).alloc _), (((H.out.1.below BB.out H.out.1.lt).below HB1.out (by have h1 := H.out.1.lt; have h2 := BB.out.size; omega)).alloc _), ((B0.out.below HB1.out B0.out.lt).alloc _), ((B2.out.below HB1.out B2.out.lt).alloc _), Blk.new _ _ _⟩
  have HR1 := Lib.hid ((B1.out.below HB1.out B1.out.lt).alloc (.cells #[.int .i64 ca, .bool en, .int .i64 sc, .int .i64 sq, .int .i64 sl, .int .i64 fw, .int .i64 sfr, .int .i64 sp, .int .i64 sg] 72))
  have HBW := Lib.hid ((BB.out.trans (HB1.out.mono BB.out.size)).alloc (by have h2 := BB.out.size; have h3 := HB1.out.size; omega) (.cells #[.int .i64 ca, .bool en, .int .i64 sc, .int .i64 sq, .int .i64 sl, .int .i64 fw, .int .i64 sfr, .int .i64 sp, .int .i64 sg] 72))
  have HLE := Lib.hid (show w.heap.size + 1 < w1.heap.size by have h1 := (B1.out.below HB1.out B1.out.lt).lt; omega)
  clear BB B0 B1 B2 H HN HP HB1
  generalize (w1.alloc (.cells #[.int .i64 ca, .bool en, .int .i64 sc, .int .i64 sq, .int .i64 sl, .int .i64 fw, .int .i64 sfr, .int .i64 sp, .int .i64 sg] 72)) = W at HS1 HR1 HBW ⊢
  generalize w1.heap.size = b3 at HS1 HLE ⊢
  have HS := Lib.hid (show SeeS bn bp bm w.heap.size (w.heap.size + 1 + 1) b3 bt lb c ca en cz q l f fr p g sc sq sl sf sfr sp sg sl fw W.drew from HS1.out)
  have HRR := Lib.hid (show Blk W.drew (w.heap.size + 1) 72 #[.int .i64 0, .bool false, .int .i64 0, .int .i64 0, .int .i64 0, .int .i64 0, .int .i64 0, .int .i64 0, .int .i64 0] from HR1.out)
  have HBD := Lib.hid (HBW.out.drew)
  clear HS1 HR1 HBW
  refine wp_region_plan2 (SeeS bn bp bm w.heap.size (w.heap.size + 1 + 1) b3 bt lb c ca en cz q l f fr p g sc sq sl sf sfr sp sg sl fw) 56 [(0, true), (1, true), (2, true), (3, true), (4, true), (5, true), (6, true), (7, true), (8, true), (9, true), (10, true), (11, true), (12, false), (13, true), (14, true), (15, true), (16, true), (17, true), (18, true), (19, true), (20, true), (21, true), (22, true), (23, false), (24, true), (25, true), (26, true), (27, true), (28, true), (29, true), (30, true), (31, true), (32, true), (33, true), (34, false), (35, true), (36, true), (37, true), (38, true), (39, true), (40, true), (41, true), (42, true), (43, true), (44, true), (45, true), (46, true), (47, true), (48, true), (49, true), (50, true), (51, true), (52, true), (53, true), (54, true), (55, true)] (by kernel_rfl) (by kernel_rfl) (fun _ _ d _ _ h => by cases d <;> exact h) (by decide) (by simp only [List.map_cons, List.map_nil, Array.getD_eq_getD_getElem?, List.getElem?_toArray, List.getElem?_cons_zero, List.getElem?_cons_succ, Option.getD_some]; rfl) (by simp only [List.map_cons, List.map_nil]; rfl) (HS.out) (fun PE hPE => ?_)
  refine plan_take (v := ?_) rfl (by rfl) ?_ ?_
  rotate_left
  · intro _ hSw; (try dsimp only at hSw); go_simp; (try with_reducible rfl)
  simp only [List.setIfInBounds_toArray, List.set_cons_zero, List.set_cons_succ]
  refine plan_take (v := ?_) rfl (by rfl) ?_ ?_
  rotate_left
  · intro _ hSw; (try dsimp only at hSw); have x2 := hSw.2.2.2.2.2.cell 2; have x3 := hSw.2.2.2.2.2.cell 3; have x4 := hSw.2.2.2.2.2.cell 4; have x5 := hSw.2.2.2.2.2.cell 5; have x6 := hSw.2.2.2.2.2.cell 6; have x7 := hSw.2.2.2.2.2.cell 7; have x8 := hSw.2.2.2.2.2.cell 8; go_simp; (try with_reducible rfl)
  simp only [List.setIfInBounds_toArray, List.set_cons_zero, List.set_cons_succ]
  refine plan_take (v := ?_) rfl (by rfl) ?_ ?_
  rotate_left
  · intro _ hSw; (try dsimp only at hSw); have n0 := hSw.1.cell 0; have n1 := hSw.1.cell 1; have n2 := hSw.1.cell 2; have n3 := hSw.1.cell 3; have n4 := hSw.1.cell 4; have n5 := hSw.1.cell 5; have n6 := hSw.1.cell 6; go_simp; (try with_reducible rfl)
  simp only [List.setIfInBounds_toArray, List.set_cons_zero, List.set_cons_succ]
  refine plan_take (v := ?_) rfl (by rfl) ?_ ?_
  rotate_left
  · intro _ hSw; (try dsimp only at hSw); go_simp; (try with_reducible rfl)
  simp only [List.setIfInBounds_toArray, List.set_cons_zero, List.set_cons_succ]
  refine plan_take (v := ?_) rfl (by rfl) ?_ ?_
  rotate_left
  · intro _ hSw; (try dsimp only at hSw); go_simp; (try with_reducible rfl)
  simp only [List.setIfInBounds_toArray, List.set_cons_zero, List.set_cons_succ]
  refine plan_pass rfl (by rfl) ?_
  simp only [List.setIfInBounds_toArray, List.set_cons_zero, List.set_cons_succ]
  refine plan_pass rfl (by rfl) ?_
  simp only [List.setIfInBounds_toArray, List.set_cons_zero, List.set_cons_succ]
  refine plan_pass rfl (by rfl) ?_
  simp only [List.setIfInBounds_toArray, List.set_cons_zero, List.set_cons_succ]
  refine plan_pass rfl (by rfl) ?_
  simp only [List.setIfInBounds_toArray, List.set_cons_zero, List.set_cons_succ]
  refine plan_pass rfl (by rfl) ?_
  simp only [List.setIfInBounds_toArray, List.set_cons_zero, List.set_cons_succ]
  refine plan_pass rfl (by rfl) ?_
  simp only [List.setIfInBounds_toArray, List.set_cons_zero, List.set_cons_succ]
  refine plan_pass rfl (by rfl) ?_
  simp only [List.setIfInBounds_toArray, List.set_cons_zero, List.set_cons_succ]
  refine plan_skip rfl (by rfl) HS.out ?_
  simp only [List.setIfInBounds_toArray, List.set_cons_zero, List.set_cons_succ]
  refine plan_pass rfl (by rfl) ?_
  simp only [List.setIfInBounds_toArray, List.set_cons_zero, List.set_cons_succ]
  refine plan_take (v := ?_) rfl (by rfl) ?_ ?_
  rotate_left
  · intro _ hSw; (try dsimp only at hSw); go_simp; (try with_reducible rfl)
  simp only [List.setIfInBounds_toArray, List.set_cons_zero, List.set_cons_succ]
  refine plan_take (v := ?_) rfl (by rfl) ?_ ?_
  rotate_left
  · intro _ hSw; (try dsimp only at hSw); go_simp; (try with_reducible rfl)
  simp only [List.setIfInBounds_toArray, List.set_cons_zero, List.set_cons_succ]
  refine plan_pass rfl (by rfl) ?_
  simp only [List.setIfInBounds_toArray, List.set_cons_zero, List.set_cons_succ]
  refine plan_pass rfl (by rfl) ?_
  simp only [List.setIfInBounds_toArray, List.set_cons_zero, List.set_cons_succ]
  refine plan_pass rfl (by rfl) ?_
  simp only [List.setIfInBounds_toArray, List.set_cons_zero, List.set_cons_succ]
  refine plan_pass rfl (by rfl) ?_
  simp only [List.setIfInBounds_toArray, List.set_cons_zero, List.set_cons_succ]
  refine plan_pass rfl (by rfl) ?_
  simp only [List.setIfInBounds_toArray, List.set_cons_zero, List.set_cons_succ]
  refine plan_pass rfl (by rfl) ?_
  simp only [List.setIfInBounds_toArray, List.set_cons_zero, List.set_cons_succ]
  refine plan_pass rfl (by rfl) ?_
  simp only [List.setIfInBounds_toArray, List.set_cons_zero, List.set_cons_succ]
  refine plan_skip rfl (by rfl) HS.out ?_
  simp only [List.setIfInBounds_toArray, List.set_cons_zero, List.set_cons_succ]
  refine plan_pass rfl (by rfl) ?_
  simp only [List.setIfInBounds_toArray, List.set_cons_zero, List.set_cons_succ]
  refine plan_take (v := ?_) rfl (by rfl) ?_ ?_
  rotate_left
  · intro _ hSw; (try dsimp only at hSw); go_simp; (try with_reducible rfl)
  simp only [List.setIfInBounds_toArray, List.set_cons_zero, List.set_cons_succ]
  refine plan_take (v := ?_) rfl (by rfl) ?_ ?_
  rotate_left
  · intro _ hSw; (try dsimp only at hSw); go_simp; (try with_reducible rfl)
  simp only [List.setIfInBounds_toArray, List.set_cons_zero, List.set_cons_succ]
  refine plan_pass rfl (by rfl) ?_
  simp only [List.setIfInBounds_toArray, List.set_cons_zero, List.set_cons_succ]
  refine plan_pass rfl (by rfl) ?_
  simp only [List.setIfInBounds_toArray, List.set_cons_zero, List.set_cons_succ]
  refine plan_pass rfl (by rfl) ?_
  simp only [List.setIfInBounds_toArray, List.set_cons_zero, List.set_cons_succ]
  refine plan_pass rfl (by rfl) ?_
  simp only [List.setIfInBounds_toArray, List.set_cons_zero, List.set_cons_succ]
  refine plan_pass rfl (by rfl) ?_
  simp only [List.setIfInBounds_toArray, List.set_cons_zero, List.set_cons_succ]
  refine plan_pass rfl (by rfl) ?_
  simp only [List.setIfInBounds_toArray, List.set_cons_zero, List.set_cons_succ]
  refine plan_pass rfl (by rfl) ?_
  simp only [List.setIfInBounds_toArray, List.set_cons_zero, List.set_cons_succ]
  refine plan_skip rfl (by rfl) HS.out ?_
  simp only [List.setIfInBounds_toArray, List.set_cons_zero, List.set_cons_succ]
  refine plan_pass rfl (by rfl) ?_
  simp only [List.setIfInBounds_toArray, List.set_cons_zero, List.set_cons_succ]
  refine plan_take (v := ?_) rfl (by rfl) ?_ ?_
  rotate_left
  · intro _ hSw; (try dsimp only at hSw); go_simp; (try with_reducible rfl)
  simp only [List.setIfInBounds_toArray, List.set_cons_zero, List.set_cons_succ]
  refine plan_take (v := ?_) rfl (by rfl) ?_ ?_
  rotate_left
  · intro _ hSw; (try dsimp only at hSw); go_simp; (try with_reducible rfl)
  simp only [List.setIfInBounds_toArray, List.set_cons_zero, List.set_cons_succ]
  refine plan_pass rfl (by rfl) ?_
  simp only [List.setIfInBounds_toArray, List.set_cons_zero, List.set_cons_succ]
  refine plan_pass rfl (by rfl) ?_
  simp only [List.setIfInBounds_toArray, List.set_cons_zero, List.set_cons_succ]
  refine plan_pass rfl (by rfl) ?_
  simp only [List.setIfInBounds_toArray, List.set_cons_zero, List.set_cons_succ]
  refine plan_pass rfl (by rfl) ?_
  simp only [List.setIfInBounds_toArray, List.set_cons_zero, List.set_cons_succ]
  refine plan_pass rfl (by rfl) ?_
  simp only [List.setIfInBounds_toArray, List.set_cons_zero, List.set_cons_succ]
  refine plan_take (v := ?_) rfl (by rfl) ?_ ?_
  rotate_left
  · intro _ hSw; (try dsimp only at hSw); go_simp; (try with_reducible rfl)
  simp only [List.setIfInBounds_toArray, List.set_cons_zero, List.set_cons_succ]
  refine plan_take (v := ?_) rfl (by rfl) ?_ ?_
  rotate_left
  · intro _ hSw; (try dsimp only at hSw); go_simp; (try with_reducible rfl)
  simp only [List.setIfInBounds_toArray, List.set_cons_zero, List.set_cons_succ]
  refine plan_pass rfl (by rfl) ?_
  simp only [List.setIfInBounds_toArray, List.set_cons_zero, List.set_cons_succ]
  refine plan_pass rfl (by rfl) ?_
  simp only [List.setIfInBounds_toArray, List.set_cons_zero, List.set_cons_succ]
  refine plan_pass rfl (by rfl) ?_
  simp only [List.setIfInBounds_toArray, List.set_cons_zero, List.set_cons_succ]
  refine plan_pass rfl (by rfl) ?_
  simp only [List.setIfInBounds_toArray, List.set_cons_zero, List.set_cons_succ]
  refine plan_pass rfl (by rfl) ?_
  simp only [List.setIfInBounds_toArray, List.set_cons_zero, List.set_cons_succ]
  refine plan_pass rfl (by rfl) ?_
  simp only [List.setIfInBounds_toArray, List.set_cons_zero, List.set_cons_succ]
  refine plan_pass rfl (by rfl) ?_
  simp only [List.setIfInBounds_toArray, List.set_cons_zero, List.set_cons_succ]
  refine plan_pass rfl (by rfl) ?_
  simp only [List.setIfInBounds_toArray, List.set_cons_zero, List.set_cons_succ]
  refine plan_pass rfl (by rfl) ?_
  simp only [List.setIfInBounds_toArray, List.set_cons_zero, List.set_cons_succ]
  refine plan_pass rfl (by rfl) ?_
  simp only [List.setIfInBounds_toArray, List.set_cons_zero, List.set_cons_succ]
  refine plan_take (v := ?_) rfl (by rfl) ?_ ?_
  rotate_left
  · intro _ hSw; (try dsimp only at hSw); go_simp; (try with_reducible rfl)
  simp only [List.setIfInBounds_toArray, List.set_cons_zero, List.set_cons_succ]
  (refine hPE _ _ ?_; simp only [List.drop_succ_cons, List.drop_zero]; clear hPE PE)
  generalize W.drew = V at HS HRR HBD ⊢
  obtain ⟨⟨n0, n1, n2, n3, n4, n5, n6⟩, p0, m2, m4, ⟨k0, k2, k3, k4, k5, k6, k7, k8⟩, ⟨w0, w1, w2, w3, w4, w5, w6⟩, x2, x3, x4, x5, x6, x7, x8⟩ := HS.out.cells
  have k1 := HS.out.2.2.2.1.cell 1
  have x0 := HS.out.2.2.2.2.2.cell 0
  have x1 := HS.out.2.2.2.2.2.cell 1
  have r0 := HRR.out.cell 0
  have r1 := HRR.out.cell 1
  have r2 := HRR.out.cell 2
  have r3 := HRR.out.cell 3
  have r4 := HRR.out.cell 4
  have r5 := HRR.out.cell 5
  have r6 := HRR.out.cell 6
  have r7 := HRR.out.cell 7
  have r8 := HRR.out.cell 8
  have f0 := HRR.out.frozen 0
  have f1 := HRR.out.frozen 1
  have f2 := HRR.out.frozen 2
  have f3 := HRR.out.frozen 3
  have f4 := HRR.out.frozen 4
  have f5 := HRR.out.frozen 5
  have f6 := HRR.out.frozen 6
  have f7 := HRR.out.frozen 7
  have f8 := HRR.out.frozen 8
  go_wp2_with fail
  have hZ := set9_blk HRR.out (.int .i64 ca) (.bool en) (.int .i64 sc) (.int .i64 sq) (.int .i64 sl) (.int .i64 sf) (.int .i64 sfr) (.int .i64 sp) (.int .i64 sg)
  have z0 := hZ.cell 0; have z1 := hZ.cell 1; have z2 := hZ.cell 2; have z3 := hZ.cell 3; have z4 := hZ.cell 4; have z5 := hZ.cell 5; have z6 := hZ.cell 6; have z7 := hZ.cell 7; have z8 := hZ.cell 8
  refine bodyPost_ret (by simp [results, Tryz.results44, go_sem, z0, z1, z2, z3, z4, z5, z6, z7, z8]; try rfl) rfl ?_
  exact ⟨rfl, set9_below HBD.out (Nat.le_succ _) _ _ _ _ _ _ _ _ _⟩
end Go.Proofs.YtklelheejopfmaaGreat
