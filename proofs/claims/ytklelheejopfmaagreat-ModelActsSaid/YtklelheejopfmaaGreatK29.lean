/- Op29, Se29 -/
import Derived.Test.YtklelheejopfmaaGreatK28
namespace Go.Proofs.YtklelheejopfmaaGreat
open Go Go.RowKit Go.Maps
attribute [local go_sem] Oper.semAt_some
theorem etKnown : ElemT Tryz.prog 44 74 9 72 := .mk' (z := .agg #[.int .i64 0, .bool false, .int .i64 0, .int .i64 0, .int .i64 0, .int .i64 0, .int .i64 0, .int .i64 0, .int .i64 0]) (by kernel_rfl) (by kernel_rfl) rfl (by decide) (by decide)
/-- behind the append. -/
theorem rat_app {w w5 : World} {rm rt base : Nat} {c : Cfg} {L : List Ent} {room : Int} {v v5 : Value} (h1 : Blk w rm 46 #[.int .i64 c.sess, .int .i64 c.frames, .int .i64 c.quota, .int .i64 c.room, .int .i64 c.slots, .pointer (some ⟨rt, 0, none⟩), v])
    (h2 : w.ownsRow base 74 9 v L.length (rowC knC (knL L))) (h3 : TAt w rt base c.sess (L ++ [(0, newKn room)])) (h4 : base ≤ rm) (ho : w5.ownsRow base 74 9 v5 (L.length + 1) (rowC knC (knL L) ++ knC (newKn room))) (hg : w.grownBy w5 v.ownBlock) :
    w5.cell? ⟨rm, 6, none⟩ = some v ∧ w5.frozen? ⟨rm, 6, none⟩ = false ∧ RAt (w5.setCell ⟨rm, 6, none⟩ v5) rm rt base c (L ++ [(0, newKn room)]) ∧ RFq T29 base w (w5.setCell ⟨rm, 6, none⟩ v5) := by
  have k1 : Blk w5 rm 46 #[.int .i64 c.sess, .int .i64 c.frames, .int .i64 c.quota, .int .i64 c.room, .int .i64 c.slots, .pointer (some ⟨rt, 0, none⟩), v] := h1.grown hg (own_blk_ne h2 h1 (by decide))
  obtain ⟨vt, t1, t2, t3⟩ := h3
  have hrt : rm ≠ rt := fun e => by subst e; unfold Blk at h1 t1; rw [h1] at t1; cases t1
  have kt : Blk w5 rt 77 #[.int .i64 c.sess, vt] := t1.grown hg (own_blk_ne h2 t1 (by decide))
  have kr := own_grown t2 hg (fun g hg' => row_apart h2 t2 (by decide) g hg')
  refine ⟨k1.cell 6, k1.frozen 6, ⟨v5, k1.set_ 6 _, ?_, ⟨vt, kt.far (p := ⟨rm, 6, none⟩) hrt.symm _, own_set kr _ _ (own_blk_ne kr k1 (by decide)), t3⟩, h4⟩, (RFq.of_grown h2 (.inr (.inr (.inl rfl))) hg).trans (RFq.of_set k1 (.inl rfl) h4 6 _)⟩
  have e1 : (L ++ [(0, newKn room)]).length = L.length + 1 := by simp
  have e2 : rowC knC (knL (L ++ [(0, newKn room)])) = rowC knC (knL L) ++ knC (newKn room) := by
    unfold knL
    rw [List.map_append, rowC_app]
    congr 1
  rw [e1, e2]
  exact own_set ho _ _ (own_blk_ne ho k1 (by decide))
set_option maxRecDepth 100000 in
set_option maxHeartbeats 2000000 in
theorem ref29_Open (w : World) (rm rt base : Nat) (c : Cfg) (L : List Ent) (h : RAt w rm rt base c L) (hc : CfgOk c) (hs : ((liveK L).length : Int) ≤ c.sess) :
    Calls Tryz.prog 26 #[.pointer (some ⟨rm, 0, none⟩)] w fun e w' => e = .returned (.tuple #[.int .i64 (openF c L).1, .int .i64 (openF c L).2.1]) ∧ RAt w' rm rt base c (openF c L).2.2 ∧ RFq T29 base w w' := by
  have hll : L.length ≤ 2147483647 := by obtain ⟨_, _, _, ⟨_, _, _, t3, _⟩, _⟩ := h; exact t3
  have H := Lib.hid (h.later (Below.refl _ _).drew)
  have CL : Hid (Calls Tryz.prog 12 #[.pointer (some ⟨rt, 0, none⟩)] w.drew fun e w' => ∃ v, e = .returned v ∧ IRow w' w.drew.heap.size v (liveK L) ∧ Below w.drew.heap.size w.drew w') := Lib.hid (by obtain ⟨v, _, _, h3, _⟩ := H.out; exact ref26_Live _ rt base c.sess L h3)
  obtain ⟨n, hn⟩ : ∃ n, (liveK L).length = n := ⟨_, rfl⟩
  rw [hn] at hs
  have HN := Lib.hid hn
  have hc1 := hc.2.1
  have hc2 := hc.2.2.2.1
  have hc3 := hc.2.2.2.2.1
  have hc4 := hc.2.2.2.2.2.1
  have w1 : IntKind.i64.wrap ((n : Int) + 1) = (n : Int) + 1 := by rw [IntKind.wrap_i64]; omega
  have w2 : IntKind.i64.wrap (((n : Int) + 1) * c.quota) = ((n : Int) + 1) * c.quota := by
    have h1 := mul_wrap (a := (n : Int) + 1) (b := c.quota) (by omega) (by omega) (by omega) (by omega)
    unfold wrap64 at h1
    rw [IntKind.wrap_i64]; omega
  obtain ⟨m, hm⟩ : ∃ m, ((n : Int) + 1) * c.quota = m := ⟨_, rfl⟩
  have w3 : IntKind.i64.wrap (((n : Int) + 1) * c.quota) = m := w2.trans hm
  have w4 : wrap64 (((n : Int) + 1) * c.quota) = m := by rw [mul_wrap (by omega) (by omega) (by omega) (by omega)]; exact hm
  clear w2
  have HM := Lib.hid hm
  by_cases hf : c.frames < m
  · have g1 : decide (c.frames < m) = true := decide_eq_true hf
    have hF : openF c L = (0, 15, L) := by unfold openF; rw [hn, hm, if_pos hf]
    rw [hF]
    clear h hc hs hll hn hc1 hc2 hc3 hc4 hm hf hF
    go_enter Tryz.func26, Tryz.ntmps26
    go_wp2_with fail
    refine wp_region_plan2 (fun W => RAt W rm rt base c L ∧ Below w.heap.size w W) 18 [(0, true), (1, true), (2, true), (3, true), (7, true), (8, true), (9, true), (10, true), (11, true), (13, true), (14, true), (15, true), (16, true), (17, true), (4, false), (5, true), (6, true), (12, true)] (by kernel_rfl) (by kernel_rfl) (fun _ _ d _ _ h => by cases d <;> exact h) (by decide) (by simp only [List.map_cons, List.map_nil, Array.getD_eq_getD_getElem?, List.getElem?_toArray, List.getElem?_cons_zero, List.getElem?_cons_succ, Option.getD_some]; rfl) (by simp only [List.map_cons, List.map_nil]; rfl) (⟨H.out, (Below.refl _ _).drew⟩) (fun PE hPE => ?_)
    refine plan_take (v := ?_) rfl (by rfl) ?_ ?_
    rotate_left
    · intro _ hSw; (try dsimp only at hSw); go_simp; (try with_reducible rfl)
    simp only [List.setIfInBounds_toArray, List.set_cons_zero, List.set_cons_succ]
    refine plan_take (v := ?_) rfl (by rfl) ?_ ?_
    rotate_left
    · intro _ hSw; (try dsimp only at hSw); go_simp; (try with_reducible rfl)
    simp only [List.setIfInBounds_toArray, List.set_cons_zero, List.set_cons_succ]
    refine plan_take (v := ?_) rfl (by rfl) ?_ ?_
    rotate_left
    · intro _ hSw; (try dsimp only at hSw); go_simp; (try with_reducible rfl)
    simp only [List.setIfInBounds_toArray, List.set_cons_zero, List.set_cons_succ]
    refine plan_take (v := ?_) rfl (by rfl) ?_ ?_
    rotate_left
    · intro _ hSw; (try dsimp only at hSw); obtain ⟨v, h1, _⟩ := hSw.1; have c0 := h1.cell 5; go_simp; (try with_reducible rfl)
    simp only [List.setIfInBounds_toArray, List.set_cons_zero, List.set_cons_succ]
    refine plan_take (v := ?_) rfl (by rfl) ?_ ?_
    rotate_left
    · intro _ hSw; (try dsimp only at hSw); go_simp; (try with_reducible rfl)
    simp only [List.setIfInBounds_toArray, List.set_cons_zero, List.set_cons_succ]
    refine plan_take (v := ?_) rfl (by rfl) ?_ ?_
    rotate_left
    · intro _ hSw; (try dsimp only at hSw); go_simp; (try with_reducible rfl)
    simp only [List.setIfInBounds_toArray, List.set_cons_zero, List.set_cons_succ]
    refine plan_take (v := ?_) rfl (by rfl) ?_ ?_
    rotate_left
    · intro _ hSw; (try dsimp only at hSw); go_simp; (try with_reducible rfl)
    simp only [List.setIfInBounds_toArray, List.set_cons_zero, List.set_cons_succ]
    refine plan_take (v := ?_) rfl (by rfl) ?_ ?_
    rotate_left
    · intro _ hSw; (try dsimp only at hSw); go_simp; (try with_reducible rfl)
    simp only [List.setIfInBounds_toArray, List.set_cons_zero, List.set_cons_succ]
    refine plan_take (v := ?_) rfl (by rfl) ?_ ?_
    rotate_left
    · intro _ hSw; (try dsimp only at hSw); obtain ⟨v, h1, _⟩ := hSw.1; have c0 := h1.cell 2; go_simp; (try with_reducible rfl)
    simp only [List.setIfInBounds_toArray, List.set_cons_zero, List.set_cons_succ]
    refine plan_take (v := ?_) rfl (by rfl) ?_ ?_
    rotate_left
    · intro _ hSw; (try dsimp only at hSw); go_simp; (try with_reducible rfl)
    simp only [List.setIfInBounds_toArray, List.set_cons_zero, List.set_cons_succ]
    refine plan_take (v := ?_) rfl (by rfl) ?_ ?_
    rotate_left
    · intro _ hSw; (try dsimp only at hSw); go_simp; (try with_reducible rfl)
    simp only [List.setIfInBounds_toArray, List.set_cons_zero, List.set_cons_succ]
    refine plan_take (v := ?_) rfl (by rfl) ?_ ?_
    rotate_left
    · intro _ hSw; (try dsimp only at hSw); go_simp; (try with_reducible rfl)
    simp only [List.setIfInBounds_toArray, List.set_cons_zero, List.set_cons_succ]
    refine plan_take (v := ?_) rfl (by rfl) ?_ ?_
    rotate_left
    · intro _ hSw; (try dsimp only at hSw); go_simp; (try with_reducible rfl)
    simp only [List.setIfInBounds_toArray, List.set_cons_zero, List.set_cons_succ]
    refine plan_take (v := ?_) rfl (by rfl) ?_ ?_
    rotate_left
    · intro _ hSw; (try dsimp only at hSw); obtain ⟨v, h1, _⟩ := hSw.1; have c0 := h1.cell 1; go_simp; (try with_reducible rfl)
    simp only [List.setIfInBounds_toArray, List.set_cons_zero, List.set_cons_succ]
    refine plan_call rfl (by rfl) (by first | (go_simp; done) | (go_simp; rfl)) CL.out ?_
    rintro e w4 ⟨v, rfl, ho, hb⟩
    obtain ⟨A, cp, rfl, hsl⟩ := ho.shape
    rw [HN.out]
    have hb2 := undrew hb
    have hr4 := H.out.later hb
    refine ⟨_, rfl, ⟨hr4, hb2⟩, ?_⟩
    have HB := Lib.hid hb2
    have HR4 := Lib.hid hr4
    clear ho hb hb2 hr4 hsl
    simp only [List.setIfInBounds_toArray, List.set_cons_zero, List.set_cons_succ]
    refine plan_take (v := ?_) rfl (by rfl) ?_ ?_
    rotate_left
    · intro _ hSw; (try dsimp only at hSw); go_simp; (try with_reducible rfl)
    simp only [List.setIfInBounds_toArray, List.set_cons_zero, List.set_cons_succ]
    refine plan_take (v := ?_) rfl (by rfl) ?_ ?_
    rotate_left
    · intro _ hSw; (try dsimp only at hSw); go_simp; (try with_reducible rfl)
    simp only [List.setIfInBounds_toArray, List.set_cons_zero, List.set_cons_succ]
    refine plan_take (v := ?_) rfl (by rfl) ?_ ?_
    rotate_left
    · intro _ hSw; (try dsimp only at hSw); go_simp; (try with_reducible rfl)
    simp only [List.setIfInBounds_toArray, List.set_cons_zero, List.set_cons_succ]
    (refine hPE _ _ ?_; simp only [List.drop_succ_cons, List.drop_zero]; clear hPE PE)
    go_wp2
    go_returns
    exact ⟨rfl, HR4.out, RFq.of_below HB.out⟩
  · have g1 : decide (c.frames < m) = false := decide_eq_false hf
    by_cases hfull : c.sess - (n : Int) = 0 ∨ L.length = 2147483647
    · have hF : openF c L = (0, 15, L) := by unfold openF; rw [hn, hm, if_neg hf, if_pos hfull]
      rw [hF]
      have CO : Hid (∀ W, RAt W rm rt base c L → Calls Tryz.prog 50 #[.pointer (some ⟨rt, 0, none⟩)] W fun e w' => e = .returned (.tuple #[.int .i64 0, .int .i64 15]) ∧ Below W.heap.size W w') := Lib.hid fun W hW => by
        obtain ⟨v, _, _, h3, _⟩ := hW
        exact ref26_Open_full W rt base c.sess L h3 (by rcases hfull with h1 | h1; left; omega; exact .inr h1)
      clear h hc hs hll hn hc1 hc2 hc3 hc4 hm hf hF hfull
      go_enter Tryz.func26, Tryz.ntmps26
      go_wp2_with fail
      refine wp_region_plan2 (fun W => RAt W rm rt base c L ∧ Below w.heap.size w W) 18 [(0, true), (1, true), (2, true), (3, true), (7, true), (8, true), (9, true), (10, true), (11, true), (13, true), (14, true), (15, true), (16, true), (17, true), (4, false), (5, true), (6, true), (12, true)] (by kernel_rfl) (by kernel_rfl) (fun _ _ d _ _ h => by cases d <;> exact h) (by decide) (by simp only [List.map_cons, List.map_nil, Array.getD_eq_getD_getElem?, List.getElem?_toArray, List.getElem?_cons_zero, List.getElem?_cons_succ, Option.getD_some]; rfl) (by simp only [List.map_cons, List.map_nil]; rfl) (⟨H.out, (Below.refl _ _).drew⟩) (fun PE hPE => ?_)
      refine plan_take (v := ?_) rfl (by rfl) ?_ ?_
      rotate_left
      · intro _ hSw; (try dsimp only at hSw); go_simp; (try with_reducible rfl)
      simp only [List.setIfInBounds_toArray, List.set_cons_zero, List.set_cons_succ]
      refine plan_take (v := ?_) rfl (by rfl) ?_ ?_
      rotate_left
      · intro _ hSw; (try dsimp only at hSw); go_simp; (try with_reducible rfl)
      simp only [List.setIfInBounds_toArray, List.set_cons_zero, List.set_cons_succ]
      refine plan_take (v := ?_) rfl (by rfl) ?_ ?_
      rotate_left
      · intro _ hSw; (try dsimp only at hSw); go_simp; (try with_reducible rfl)
      simp only [List.setIfInBounds_toArray, List.set_cons_zero, List.set_cons_succ]
      refine plan_take (v := ?_) rfl (by rfl) ?_ ?_
      rotate_left
      · intro _ hSw; (try dsimp only at hSw); obtain ⟨v, h1, _⟩ := hSw.1; have c0 := h1.cell 5; go_simp; (try with_reducible rfl)
      simp only [List.setIfInBounds_toArray, List.set_cons_zero, List.set_cons_succ]
      refine plan_take (v := ?_) rfl (by rfl) ?_ ?_
      rotate_left
      · intro _ hSw; (try dsimp only at hSw); go_simp; (try with_reducible rfl)
      simp only [List.setIfInBounds_toArray, List.set_cons_zero, List.set_cons_succ]
      refine plan_take (v := ?_) rfl (by rfl) ?_ ?_
      rotate_left
      · intro _ hSw; (try dsimp only at hSw); go_simp; (try with_reducible rfl)
      simp only [List.setIfInBounds_toArray, List.set_cons_zero, List.set_cons_succ]
      refine plan_take (v := ?_) rfl (by rfl) ?_ ?_
      rotate_left
      · intro _ hSw; (try dsimp only at hSw); go_simp; (try with_reducible rfl)
      simp only [List.setIfInBounds_toArray, List.set_cons_zero, List.set_cons_succ]
      refine plan_take (v := ?_) rfl (by rfl) ?_ ?_
      rotate_left
      · intro _ hSw; (try dsimp only at hSw); go_simp; (try with_reducible rfl)
      simp only [List.setIfInBounds_toArray, List.set_cons_zero, List.set_cons_succ]
      refine plan_take (v := ?_) rfl (by rfl) ?_ ?_
      rotate_left
      · intro _ hSw; (try dsimp only at hSw); obtain ⟨v, h1, _⟩ := hSw.1; have c0 := h1.cell 2; go_simp; (try with_reducible rfl)
      simp only [List.setIfInBounds_toArray, List.set_cons_zero, List.set_cons_succ]
      refine plan_take (v := ?_) rfl (by rfl) ?_ ?_
      rotate_left
      · intro _ hSw; (try dsimp only at hSw); go_simp; (try with_reducible rfl)
      simp only [List.setIfInBounds_toArray, List.set_cons_zero, List.set_cons_succ]
      refine plan_take (v := ?_) rfl (by rfl) ?_ ?_
      rotate_left
      · intro _ hSw; (try dsimp only at hSw); go_simp; (try with_reducible rfl)
      simp only [List.setIfInBounds_toArray, List.set_cons_zero, List.set_cons_succ]
      refine plan_take (v := ?_) rfl (by rfl) ?_ ?_
      rotate_left
      · intro _ hSw; (try dsimp only at hSw); go_simp; (try with_reducible rfl)
      simp only [List.setIfInBounds_toArray, List.set_cons_zero, List.set_cons_succ]
      refine plan_take (v := ?_) rfl (by rfl) ?_ ?_
      rotate_left
      · intro _ hSw; (try dsimp only at hSw); go_simp; (try with_reducible rfl)
      simp only [List.setIfInBounds_toArray, List.set_cons_zero, List.set_cons_succ]
      refine plan_take (v := ?_) rfl (by rfl) ?_ ?_
      rotate_left
      · intro _ hSw; (try dsimp only at hSw); obtain ⟨v, h1, _⟩ := hSw.1; have c0 := h1.cell 1; go_simp; (try with_reducible rfl)
      simp only [List.setIfInBounds_toArray, List.set_cons_zero, List.set_cons_succ]
      refine plan_call rfl (by rfl) (by first | (go_simp; done) | (go_simp; rfl)) CL.out ?_
      rintro e w4 ⟨v, rfl, ho, hb⟩
      obtain ⟨A, cp, rfl, hsl⟩ := ho.shape
      rw [HN.out]
      have hb2 := undrew hb
      have hr4 := H.out.later hb
      refine ⟨_, rfl, ⟨hr4, hb2⟩, ?_⟩
      have HB := Lib.hid hb2
      have HR4 := Lib.hid hr4
      have c5 : w4.cell? ⟨rm, 5, none⟩ = some (.pointer (some ⟨rt, 0, none⟩)) := by obtain ⟨v, h1, _⟩ := hr4; exact h1.cell 5
      clear ho hb hb2 hr4 hsl
      simp only [List.setIfInBounds_toArray, List.set_cons_zero, List.set_cons_succ]
      refine plan_take (v := ?_) rfl (by rfl) ?_ ?_
      rotate_left
      · intro _ hSw; (try dsimp only at hSw); go_simp; (try with_reducible rfl)
      simp only [List.setIfInBounds_toArray, List.set_cons_zero, List.set_cons_succ]
      refine plan_take (v := ?_) rfl (by rfl) ?_ ?_
      rotate_left
      · intro _ hSw; (try dsimp only at hSw); go_simp; (try with_reducible rfl)
      simp only [List.setIfInBounds_toArray, List.set_cons_zero, List.set_cons_succ]
      refine plan_take (v := ?_) rfl (by rfl) ?_ ?_
      rotate_left
      · intro _ hSw; (try dsimp only at hSw); go_simp; (try with_reducible rfl)
      simp only [List.setIfInBounds_toArray, List.set_cons_zero, List.set_cons_succ]
      (refine hPE _ _ ?_; simp only [List.drop_succ_cons, List.drop_zero]; clear hPE PE)
      go_wp2_with (go_at_call 50; refine (CO.out _ HR4.out).mono ?_; rintro e w5 ⟨rfl, hb5⟩; have HB5 := Lib.hid hb5; clear hb5)
      go_returns
      exact ⟨rfl, HR4.out.later HB5.out, RFq.of_below (HB.out.trans (HB5.out.mono HB.out.size))⟩
    · have hF : openF c L = ((L.length : Int) + 1, 0, L ++ [(0, newKn c.room)]) := by unfold openF; rw [hn, hm, if_neg hf, if_neg hfull]
      rw [hF]
      have CO : Hid (∀ W, RAt W rm rt base c L → Calls Tryz.prog 50 #[.pointer (some ⟨rt, 0, none⟩)] W fun e w' => e = .returned (.tuple #[.int .i64 ((L.length : Int) + 1), .int .i64 0]) ∧ TAt w' rt base c.sess (L ++ [(0, newKn c.room)]) ∧ RFq T26 base W w') := Lib.hid fun W hW => by
        have hbw := hW.base_le
        obtain ⟨v, _, _, h3, _⟩ := hW
        exact ref26_Open_ok W rt base c.sess L h3 (by omega) (by omega) hbw _
      have HLL := Lib.hid hll
      clear h hc hs hll hn hc1 hc2 hc3 hc4 hm hf hF hfull
      go_enter Tryz.func26, Tryz.ntmps26
      go_wp2_with fail
      refine wp_region_plan2 (fun W => RAt W rm rt base c L ∧ Below w.heap.size w W) 18 [(0, true), (1, true), (2, true), (3, true), (7, true), (8, true), (9, true), (10, true), (11, true), (13, true), (14, true), (15, true), (16, true), (17, true), (4, false), (5, true), (6, true), (12, true)] (by kernel_rfl) (by kernel_rfl) (fun _ _ d _ _ h => by cases d <;> exact h) (by decide) (by simp only [List.map_cons, List.map_nil, Array.getD_eq_getD_getElem?, List.getElem?_toArray, List.getElem?_cons_zero, List.getElem?_cons_succ, Option.getD_some]; rfl) (by simp only [List.map_cons, List.map_nil]; rfl) (⟨H.out, (Below.refl _ _).drew⟩) (fun PE hPE => ?_)
      refine plan_take (v := ?_) rfl (by rfl) ?_ ?_
      rotate_left
      · intro _ hSw; (try dsimp only at hSw); go_simp; (try with_reducible rfl)
      simp only [List.setIfInBounds_toArray, List.set_cons_zero, List.set_cons_succ]
      refine plan_take (v := ?_) rfl (by rfl) ?_ ?_
      rotate_left
      · intro _ hSw; (try dsimp only at hSw); go_simp; (try with_reducible rfl)
      simp only [List.setIfInBounds_toArray, List.set_cons_zero, List.set_cons_succ]
      refine plan_take (v := ?_) rfl (by rfl) ?_ ?_
      rotate_left
      · intro _ hSw; (try dsimp only at hSw); go_simp; (try with_reducible rfl)
      simp only [List.setIfInBounds_toArray, List.set_cons_zero, List.set_cons_succ]
      refine plan_take (v := ?_) rfl (by rfl) ?_ ?_
      rotate_left
      · intro _ hSw; (try dsimp only at hSw); obtain ⟨v, h1, _⟩ := hSw.1; have c0 := h1.cell 5; go_simp; (try with_reducible rfl)
      simp only [List.setIfInBounds_toArray, List.set_cons_zero, List.set_cons_succ]
      refine plan_take (v := ?_) rfl (by rfl) ?_ ?_
      rotate_left
      · intro _ hSw; (try dsimp only at hSw); go_simp; (try with_reducible rfl)
      simp only [List.setIfInBounds_toArray, List.set_cons_zero, List.set_cons_succ]
      refine plan_take (v := ?_) rfl (by rfl) ?_ ?_
      rotate_left
      · intro _ hSw; (try dsimp only at hSw); go_simp; (try with_reducible rfl)
      simp only [List.setIfInBounds_toArray, List.set_cons_zero, List.set_cons_succ]
      refine plan_take (v := ?_) rfl (by rfl) ?_ ?_
      rotate_left
      · intro _ hSw; (try dsimp only at hSw); go_simp; (try with_reducible rfl)
      simp only [List.setIfInBounds_toArray, List.set_cons_zero, List.set_cons_succ]
      refine plan_take (v := ?_) rfl (by rfl) ?_ ?_
      rotate_left
      · intro _ hSw; (try dsimp only at hSw); go_simp; (try with_reducible rfl)
      simp only [List.setIfInBounds_toArray, List.set_cons_zero, List.set_cons_succ]
      refine plan_take (v := ?_) rfl (by rfl) ?_ ?_
      rotate_left
      · intro _ hSw; (try dsimp only at hSw); obtain ⟨v, h1, _⟩ := hSw.1; have c0 := h1.cell 2; go_simp; (try with_reducible rfl)
      simp only [List.setIfInBounds_toArray, List.set_cons_zero, List.set_cons_succ]
      refine plan_take (v := ?_) rfl (by rfl) ?_ ?_
      rotate_left
      · intro _ hSw; (try dsimp only at hSw); go_simp; (try with_reducible rfl)
      simp only [List.setIfInBounds_toArray, List.set_cons_zero, List.set_cons_succ]
      refine plan_take (v := ?_) rfl (by rfl) ?_ ?_
      rotate_left
      · intro _ hSw; (try dsimp only at hSw); go_simp; (try with_reducible rfl)
      simp only [List.setIfInBounds_toArray, List.set_cons_zero, List.set_cons_succ]
      refine plan_take (v := ?_) rfl (by rfl) ?_ ?_
      rotate_left
      · intro _ hSw; (try dsimp only at hSw); go_simp; (try with_reducible rfl)
      simp only [List.setIfInBounds_toArray, List.set_cons_zero, List.set_cons_succ]
      refine plan_take (v := ?_) rfl (by rfl) ?_ ?_
      rotate_left
      · intro _ hSw; (try dsimp only at hSw); go_simp; (try with_reducible rfl)
      simp only [List.setIfInBounds_toArray, List.set_cons_zero, List.set_cons_succ]
      refine plan_take (v := ?_) rfl (by rfl) ?_ ?_
      rotate_left
      · intro _ hSw; (try dsimp only at hSw); obtain ⟨v, h1, _⟩ := hSw.1; have c0 := h1.cell 1; go_simp; (try with_reducible rfl)
      simp only [List.setIfInBounds_toArray, List.set_cons_zero, List.set_cons_succ]
      refine plan_call rfl (by rfl) (by first | (go_simp; done) | (go_simp; rfl)) CL.out ?_
      rintro e w4 ⟨v, rfl, ho, hb⟩
      obtain ⟨A, cp, rfl, hsl⟩ := ho.shape
      rw [HN.out]
      have hb2 := undrew hb
      have hr4 := H.out.later hb
      refine ⟨_, rfl, ⟨hr4, hb2⟩, ?_⟩
      have HB := Lib.hid hb2
      have HR4 := Lib.hid hr4
      have c5 : w4.cell? ⟨rm, 5, none⟩ = some (.pointer (some ⟨rt, 0, none⟩)) := by obtain ⟨v, h1, _⟩ := hr4; exact h1.cell 5
      clear ho hb hb2 hr4 hsl
      simp only [List.setIfInBounds_toArray, List.set_cons_zero, List.set_cons_succ]
      refine plan_take (v := ?_) rfl (by rfl) ?_ ?_
      rotate_left
      · intro _ hSw; (try dsimp only at hSw); go_simp; (try with_reducible rfl)
      simp only [List.setIfInBounds_toArray, List.set_cons_zero, List.set_cons_succ]
      refine plan_take (v := ?_) rfl (by rfl) ?_ ?_
      rotate_left
      · intro _ hSw; (try dsimp only at hSw); go_simp; (try with_reducible rfl)
      simp only [List.setIfInBounds_toArray, List.set_cons_zero, List.set_cons_succ]
      refine plan_take (v := ?_) rfl (by rfl) ?_ ?_
      rotate_left
      · intro _ hSw; (try dsimp only at hSw); go_simp; (try with_reducible rfl)
      simp only [List.setIfInBounds_toArray, List.set_cons_zero, List.set_cons_succ]
      (refine hPE _ _ ?_; simp only [List.drop_succ_cons, List.drop_zero]; clear hPE PE)
      go_wp2_with (go_at_call 50; refine (CO.out _ HR4.out).mono ?_; rintro e w5 ⟨rfl, ht5, hf5⟩; have HT5 := Lib.hid ht5; have HF5 := Lib.hid hf5; clear ht5 hf5)
      obtain ⟨v, k1, k2, _, k4⟩ := HR4.out
      have K1 := Lib.hid (HF5.out.blk k1 (by decide))
      have K2 := Lib.hid (show w5.ownsRow base 74 9 v L.length (rowC knC (knL L)) from own_same k2 (fun g cs _ hb => HF5.out.blk hb (by decide)))
      have K4 := Lib.hid k4
      obtain ⟨A6, c6, rfl⟩ := own_any k2
      have HBL := Lib.hid (show base ≤ w5.drew.heap.size by have := K1.out.lt; show base ≤ w5.heap.size; omega)
      clear k1 k2 k4 c5
      have hB1 : Below w5.heap.size w5 ((w5.drew).alloc (.cells #[.int .i64 0, .bool false, .int .i64 0, .int .i64 0, .int .i64 0, .int .i64 c.room, .int .i64 0, .int .i64 0, .int .i64 0] 74)) := ((Below.refl _ _).drew).alloc (Nat.le_refl _) _
      obtain ⟨v7, w7, hrun, ho7, hg7, hor7⟩ := run_app (w := (w5.drew).alloc (.cells #[.int .i64 0, .bool false, .int .i64 0, .int .i64 0, .int .i64 0, .int .i64 c.room, .int .i64 0, .int .i64 0, .int .i64 0] 74)) etKnown 44 (n := L.length) (m := 1) (c := 1) (A := some ⟨w5.heap.size, 0, none⟩) (news := knC (newKn c.room)) (own_below K2.out hB1 (Nat.le_refl _)) rfl ((Blk.new w5.drew 74 #[.int .i64 0, .bool false, .int .i64 0, .int .i64 0, .int .i64 0, .int .i64 c.room, .int .i64 0, .int .i64 0, .int .i64 0]).sl 0) (by simp [knC, Value.oneCell']) (by have := HLL.out; omega) (by have := HBL.out; have h1 := hB1.size; exact Nat.le_trans this h1)
      obtain ⟨A7, c7, rfl⟩ := own_any ho7
      obtain ⟨r1, r2, r3, r4⟩ := rat_app (room := c.room) (K1.out.below hB1 K1.out.lt) (own_below K2.out hB1 (Nat.le_refl _)) (HT5.out.later hB1) K4.out ho7 hg7
      have HFIN := Lib.hid (And.intro r3 ((RFq.of_below (T := T29) (base := base) HB.out).trans ((HF5.out.to (fun t => T26.to29)).trans ((RFq.of_below hB1).trans r4))))
      have HRUN := Lib.hid hrun
      have HSB := Lib.hid (show Blk (w5.drew) rm 46 #[.int .i64 c.sess, .int .i64 c.frames, .int .i64 c.quota, .int .i64 c.room, .int .i64 c.slots, .pointer (some ⟨rt, 0, none⟩), .slice A6 L.length c6] from K1.out.drew')
      have HSB2 := Lib.hid (HSB.out.alloc (.cells #[.int .i64 0, .bool false, .int .i64 0, .int .i64 0, .int .i64 0, .int .i64 c.room, .int .i64 0, .int .i64 0, .int .i64 0] 74))
      have HSB3 := Lib.hid (HSB2.out.grown hg7 (own_blk_ne (own_below K2.out hB1 (Nat.le_refl _)) HSB2.out (by decide)))
      clear hB1 hrun ho7 hg7 hor7 r3 r4
      refine wp_region_plan2 (fun W => Blk W rm 46 #[.int .i64 c.sess, .int .i64 c.frames, .int .i64 c.quota, .int .i64 c.room, .int .i64 c.slots, .pointer (some ⟨rt, 0, none⟩), .slice A6 L.length c6]) 14 [(0, true), (1, true), (2, true), (3, true), (4, true), (5, true), (6, true), (7, true), (8, true), (9, true), (10, true), (11, true), (12, false), (13, false)] (by kernel_rfl) (by kernel_rfl) (fun _ _ d _ _ h => by cases d <;> exact h) (by decide) (by simp only [List.map_cons, List.map_nil, Array.getD_eq_getD_getElem?, List.getElem?_toArray, List.getElem?_cons_zero, List.getElem?_cons_succ, Option.getD_some]; rfl) (by simp only [List.map_cons, List.map_nil]; rfl) (HSB.out) (fun PE hPE => ?_)
      refine plan_take (v := ?_) rfl (by rfl) ?_ ?_
      rotate_left
      · intro _ hSw; (try dsimp only at hSw); go_simp; (try with_reducible rfl)
      simp only [List.setIfInBounds_toArray, List.set_cons_zero, List.set_cons_succ]
      refine plan_take (v := ?_) rfl (by rfl) ?_ ?_
      rotate_left
      · intro _ hSw; (try dsimp only at hSw); go_simp; (try with_reducible rfl)
      simp only [List.setIfInBounds_toArray, List.set_cons_zero, List.set_cons_succ]
      refine plan_take (v := ?_) rfl (by rfl) ?_ ?_
      rotate_left
      · intro _ hSw; (try dsimp only at hSw); go_simp; (try with_reducible rfl)
      simp only [List.setIfInBounds_toArray, List.set_cons_zero, List.set_cons_succ]
      refine plan_take (v := ?_) rfl (by rfl) ?_ ?_
      rotate_left
      · intro _ hSw; (try dsimp only at hSw); go_simp; (try with_reducible rfl)
      simp only [List.setIfInBounds_toArray, List.set_cons_zero, List.set_cons_succ]
      refine plan_take (v := ?_) rfl (by rfl) ?_ ?_
      rotate_left
      · intro _ hSw; (try dsimp only at hSw); have c0 := hSw.cell 6; go_simp; (try with_reducible rfl)
      simp only [List.setIfInBounds_toArray, List.set_cons_zero, List.set_cons_succ]
      refine plan_take (v := ?_) rfl (by rfl) ?_ ?_
      rotate_left
      · intro _ hSw; (try dsimp only at hSw); go_simp; (try with_reducible rfl)
      simp only [List.setIfInBounds_toArray, List.set_cons_zero, List.set_cons_succ]
      refine plan_take (v := ?_) rfl (by rfl) ?_ ?_
      rotate_left
      · intro _ hSw; (try dsimp only at hSw); go_simp; (try with_reducible rfl)
      simp only [List.setIfInBounds_toArray, List.set_cons_zero, List.set_cons_succ]
      refine plan_take (v := ?_) rfl (by rfl) ?_ ?_
      rotate_left
      · intro _ hSw; (try dsimp only at hSw); go_simp; (try with_reducible rfl)
      simp only [List.setIfInBounds_toArray, List.set_cons_zero, List.set_cons_succ]
      refine plan_take (v := ?_) rfl (by rfl) ?_ ?_
      rotate_left
      · intro _ hSw; (try dsimp only at hSw); go_simp; (try with_reducible rfl)
      simp only [List.setIfInBounds_toArray, List.set_cons_zero, List.set_cons_succ]
      refine plan_take (v := ?_) rfl (by rfl) ?_ ?_
      rotate_left
      · intro _ hSw; (try dsimp only at hSw); have c0 := hSw.cell 3; go_simp; (try with_reducible rfl)
      simp only [List.setIfInBounds_toArray, List.set_cons_zero, List.set_cons_succ]
      refine plan_take (v := ?_) rfl (by rfl) ?_ ?_
      rotate_left
      · intro _ hSw; (try dsimp only at hSw); go_simp; (try with_reducible rfl)
      simp only [List.setIfInBounds_toArray, List.set_cons_zero, List.set_cons_succ]
      refine plan_take (v := ?_) rfl (by rfl) ?_ ?_
      rotate_left
      · intro _ hSw; (try dsimp only at hSw); go_simp; (try with_reducible rfl)
      simp only [List.setIfInBounds_toArray, List.set_cons_zero, List.set_cons_succ]
      refine plan_value (v := ?_) (w' := ?_) rfl (by rfl) ?_ ?_ ?_
      rotate_left 2
      · go_simp; (try (constructor <;> with_reducible rfl))
      · exact HSB2.out
      refine plan_value (v := .slice A7 (L.length + 1) c7) (w' := w7) rfl (by rfl) (exec_app rfl rfl rfl HRUN.out) HSB3.out ?_
      simp only [List.setIfInBounds_toArray, List.set_cons_zero, List.set_cons_succ]
      (refine hPE _ _ ?_; simp only [List.drop_succ_cons, List.drop_zero]; clear hPE PE)
      go_wp2_with fail
      go_returns
      exact ⟨rfl, HFIN.out⟩
end Go.Proofs.YtklelheejopfmaaGreat
namespace Go.Proofs.YtklelheejopfmaaGreat
open Go Go.RowKit Go.Maps
attribute [local go_sem] Oper.semAt_some
theorem ix_facts {i n : Nat} (h : i < n) (hn : n ≤ 2147483647) : ¬ (i : Int) < 0 ∧ (i : Int) < (n : Int) ∧ wrap64 (i : Int) = (i : Int) ∧ IntKind.i64.wrap (i : Int) = (i : Int) :=
  ⟨by omega, by omega, wrap64_id (by omega) (by omega), by rw [IntKind.wrap_i64]; omega⟩
theorem wrap_same {x y : Int} (h : wrap64 x = y) : IntKind.i64.wrap x = y := by unfold wrap64 at h; rw [IntKind.wrap_i64]; omega
/-- the blocks that See's long question reads -/
structure SeR (b5 b8 b9 rm : Nat) (c : Cfg) (ca : Int) (en : Bool) (cz q l f fr p g sc sq sl sf sfr sp sg : Int) (W : World) : Prop where
  p5 : Blk W b5 35 #[.int .i64 sc, .int .i64 sq, .int .i64 sl, .int .i64 sf, .int .i64 sfr, .int .i64 sp, .int .i64 sg]
  p8 : Blk W b8 74 #[.int .i64 ca, .bool en, .int .i64 cz, .int .i64 q, .int .i64 l, .int .i64 f, .int .i64 fr, .int .i64 p, .int .i64 g]
  p9 : Blk W b9 35 #[.int .i64 cz, .int .i64 q, .int .i64 l, .int .i64 f, .int .i64 fr, .int .i64 p, .int .i64 g]
  m2 : W.cell? ⟨rm, 2, none⟩ = some (.int .i64 c.quota)
  m4 : W.cell? ⟨rm, 4, none⟩ = some (.int .i64 c.slots)
theorem set7_at2 {w : World} {b : Nat} {t : TypeId} {c0 c1 c2 c3 c4 c5 c6 c7 c8 : Value} (h : Blk w b t #[c0, c1, c2, c3, c4, c5, c6, c7, c8]) (v2 v3 v4 v5 v6 v7 v8 : Value) : Blk (((((((w.setCell ⟨b, 2, none⟩ v2).setCell ⟨b, 3, none⟩ v3).setCell ⟨b, 4, none⟩ v4).setCell ⟨b, 5, none⟩ v5).setCell ⟨b, 6, none⟩ v6).setCell ⟨b, 7, none⟩ v7).setCell ⟨b, 8, none⟩ v8) b t #[c0, c1, v2, v3, v4, v5, v6, v7, v8] := by
  have h1 := (((((((h.set_ 2 v2).set_ 3 v3).set_ 4 v4).set_ 5 v5).set_ 6 v6).set_ 7 v7).set_ 8 v8)
  simpa only [List.setIfInBounds_toArray, List.set_cons_zero, List.set_cons_succ] using h1
theorem set7_far {w : World} {b b' : Nat} {t : TypeId} {cs : Array Value} (h : Blk w b' t cs) (hne : b' ≠ b) (v2 v3 v4 v5 v6 v7 v8 : Value) : Blk (((((((w.setCell ⟨b, 2, none⟩ v2).setCell ⟨b, 3, none⟩ v3).setCell ⟨b, 4, none⟩ v4).setCell ⟨b, 5, none⟩ v5).setCell ⟨b, 6, none⟩ v6).setCell ⟨b, 7, none⟩ v7).setCell ⟨b, 8, none⟩ v8) b' t cs :=
  ((((((h.far (p := ⟨b, 2, none⟩) hne v2).far (p := ⟨b, 3, none⟩) hne v3).far (p := ⟨b, 4, none⟩) hne v4).far (p := ⟨b, 5, none⟩) hne v5).far (p := ⟨b, 6, none⟩) hne v6).far (p := ⟨b, 7, none⟩) hne v7).far (p := ⟨b, 8, none⟩) hne v8
theorem set7_bel {B : Nat} {a w : World} {b : Nat} (h : Below B a w) (hb : B ≤ b) (v2 v3 v4 v5 v6 v7 v8 : Value) : Below B a (((((((w.setCell ⟨b, 2, none⟩ v2).setCell ⟨b, 3, none⟩ v3).setCell ⟨b, 4, none⟩ v4).setCell ⟨b, 5, none⟩ v5).setCell ⟨b, 6, none⟩ v6).setCell ⟨b, 7, none⟩ v7).setCell ⟨b, 8, none⟩ v8) :=
  (((((((h.setCell (p := ⟨b, 2, none⟩) hb v2).setCell (p := ⟨b, 3, none⟩) hb v3).setCell (p := ⟨b, 4, none⟩) hb v4).setCell (p := ⟨b, 5, none⟩) hb v5).setCell (p := ⟨b, 6, none⟩) hb v6).setCell (p := ⟨b, 7, none⟩) hb v7).setCell (p := ⟨b, 8, none⟩) hb v8)
/-- all cells of one number are turned. -/
theorem RAt.turn9 {w : World} {rm rt base : Nat} {c : Cfg} {L : List Ent} (h : RAt w rm rt base c L) {i : Nat} {d : Int} {k : Kn} (hL : L[i]? = some (d, k)) {g cap : Nat} (hg : w.cell? ⟨rm, 6, none⟩ = some (.slice (some ⟨g, 0, none⟩) L.length cap)) (k2 : Kn) :
    RAt (((((((((w.setCell ⟨g, i * 9, none⟩ (.int .i64 k2.came)).setCell ⟨g, i * 9 + 1, none⟩ (.bool k2.ended)).setCell ⟨g, i * 9 + 2, none⟩ (.int .i64 k2.cause)).setCell ⟨g, i * 9 + 3, none⟩ (.int .i64 k2.queued)).setCell ⟨g, i * 9 + 4, none⟩ (.int .i64 k2.left)).setCell ⟨g, i * 9 + 5, none⟩ (.int .i64 k2.free)).setCell ⟨g, i * 9 + 6, none⟩ (.int .i64 k2.frames)).setCell ⟨g, i * 9 + 7, none⟩ (.int .i64 k2.pics)).setCell ⟨g, i * 9 + 8, none⟩ (.int .i64 k2.gone)) rm rt base c (L.set i (d, k2)) ∧
    RFq T29 base w (((((((((w.setCell ⟨g, i * 9, none⟩ (.int .i64 k2.came)).setCell ⟨g, i * 9 + 1, none⟩ (.bool k2.ended)).setCell ⟨g, i * 9 + 2, none⟩ (.int .i64 k2.cause)).setCell ⟨g, i * 9 + 3, none⟩ (.int .i64 k2.queued)).setCell ⟨g, i * 9 + 4, none⟩ (.int .i64 k2.left)).setCell ⟨g, i * 9 + 5, none⟩ (.int .i64 k2.free)).setCell ⟨g, i * 9 + 6, none⟩ (.int .i64 k2.frames)).setCell ⟨g, i * 9 + 7, none⟩ (.int .i64 k2.pics)).setCell ⟨g, i * 9 + 8, none⟩ (.int .i64 k2.gone)) := by
  have hi := (ix_get hL).1
  have st : ∀ (W : World) (k1 : Kn), RAt W rm rt base c (L.set i (d, k1)) → W.cell? ⟨rm, 6, none⟩ = some (.slice (some ⟨g, 0, none⟩) (L.set i (d, k1)).length cap) → ∀ (j : Nat) (_ : j < 9) (u : Value) (kk : Kn), knC kk = (knC k1).set j u →
      RAt (W.setCell ⟨g, i * 9 + j, none⟩ u) rm rt base c (L.set i (d, kk)) ∧ RFq T29 base W (W.setCell ⟨g, i * 9 + j, none⟩ u) ∧ (W.setCell ⟨g, i * 9 + j, none⟩ u).cell? ⟨rm, 6, none⟩ = some (.slice (some ⟨g, 0, none⟩) (L.set i (d, kk)).length cap) := fun W k1 hW hc j hj u kk hkk => by
    obtain ⟨a1, a2, a3⟩ := hW.turn (d := d) (k := k1) (i := i) (by simp [hi]) hc j hj u (k2 := kk) hkk
    rw [List.set_set] at a1 a3
    exact ⟨a1, a2, a3⟩
  obtain ⟨a0, b0, c0⟩ := h.turn hL hg 0 (by decide) (.int .i64 k2.came) (k2 := { k with came := k2.came }) rfl
  obtain ⟨a1, b1, c1⟩ := st _ _ a0 c0 1 (by decide) (.bool k2.ended) { k with came := k2.came, ended := k2.ended } rfl
  obtain ⟨a2, b2, c2⟩ := st _ _ a1 c1 2 (by decide) (.int .i64 k2.cause) { k with came := k2.came, ended := k2.ended, cause := k2.cause } rfl
  obtain ⟨a3, b3, c3⟩ := st _ _ a2 c2 3 (by decide) (.int .i64 k2.queued) { k with came := k2.came, ended := k2.ended, cause := k2.cause, queued := k2.queued } rfl
  obtain ⟨a4, b4, c4⟩ := st _ _ a3 c3 4 (by decide) (.int .i64 k2.left) { k with came := k2.came, ended := k2.ended, cause := k2.cause, queued := k2.queued, left := k2.left } rfl
  obtain ⟨a5, b5, c5⟩ := st _ _ a4 c4 5 (by decide) (.int .i64 k2.free) { k with came := k2.came, ended := k2.ended, cause := k2.cause, queued := k2.queued, left := k2.left, free := k2.free } rfl
  obtain ⟨a6, b6, c6⟩ := st _ _ a5 c5 6 (by decide) (.int .i64 k2.frames) { k with came := k2.came, ended := k2.ended, cause := k2.cause, queued := k2.queued, left := k2.left, free := k2.free, frames := k2.frames } rfl
  obtain ⟨a7, b7, c7⟩ := st _ _ a6 c6 7 (by decide) (.int .i64 k2.pics) { k with came := k2.came, ended := k2.ended, cause := k2.cause, queued := k2.queued, left := k2.left, free := k2.free, frames := k2.frames, pics := k2.pics } rfl
  obtain ⟨a8, b8, c8⟩ := st _ _ a7 c7 8 (by decide) (.int .i64 k2.gone) k2 rfl
  exact ⟨a8, b0.trans (b1.trans (b2.trans (b3.trans (b4.trans (b5.trans (b6.trans (b7.trans b8)))))))⟩
end Go.Proofs.YtklelheejopfmaaGreat
