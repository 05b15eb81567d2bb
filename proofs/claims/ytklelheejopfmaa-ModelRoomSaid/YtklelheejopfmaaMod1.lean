/- package model: its state; none, within, counts, the closures. -/
import Derived.Test.YtklelheejopfmaaTabs
namespace Go.Proofs.Ytklelheejopfmaa
open Go Go.RowKit Go.Maps
attribute [local go_sem] Oper.semAt_some
structure Cfg where
  sess : Int
  frames : Int
  quota : Int
  room : Int
  slots : Int
def CfgOk (c : Cfg) : Prop := 1 ≤ c.sess ∧ c.sess ≤ 64 ∧ 1 ≤ c.frames ∧ c.frames ≤ 64 ∧ 2 ≤ c.quota ∧ c.quota ≤ c.frames ∧ 1024 ≤ c.room ∧ c.room ≤ 1048576 ∧ 1 ≤ c.slots ∧ c.slots ≤ 1000
def KnOk (c : Cfg) (B : Int) (k : Kn) : Prop := 0 ≤ k.gone ∧ k.gone ≤ 8 * k.came ∧ 0 ≤ k.came ∧ k.came ≤ B ∧ k.left = 8 * k.came - k.gone ∧ k.free = c.room - k.came + k.gone / 8 ∧ 0 ≤ k.free ∧ 0 ≤ k.queued ∧ 0 ≤ k.frames ∧ k.frames ≤ c.quota
def MAt (w : World) (bm bt tb lb : Nat) (c : Cfg) (B : Int) (L : List Ent) : Prop :=
  Blk w bm 49 #[.int .i64 c.sess, .int .i64 c.frames, .int .i64 c.quota, .int .i64 c.room, .int .i64 c.slots, .pointer (some ⟨bt, 0, none⟩), .map (some lb)] ∧ TabAt w bt tb c.sess L ∧ w.ownsMap Try.prog 3 heldR lb L.length (numD gL L) ∧ tb ≠ lb ∧ CfgOk c ∧
    (∀ x ∈ L, KnOk c B x.2) ∧ (((liveK L).length : Int) ≤ c.sess) ∧ B ≤ 2 ^ 45
theorem MAt.later {w w' : World} {bm bt tb lb : Nat} {c : Cfg} {B : Int} {L : List Ent} (h : MAt w bm bt tb lb c B L) (hb : Below w.heap.size w w') : MAt w' bm bt tb lb c B L :=
  ⟨h.1.below hb h.1.lt, h.2.1.later hb, own_later h.2.2.1 hb, h.2.2.2⟩
theorem mod_within (n lo hi : Int) (w : World) : Calls Try.prog 27 #[.int .i64 n, .int .i64 lo, .int .i64 hi] w fun e w' => e = .returned (.bool (decide (lo ≤ n ∧ n ≤ hi))) ∧ w = w' := by
  by_cases h1 : lo ≤ n
  · have e1 : decide (lo ≤ n ∧ n ≤ hi) = decide (n ≤ hi) := by simp [h1]
    rw [e1]
    clear e1
    go_enter Try.func27, Try.ntmps27
    go_wp2
    go_ret
    exact ⟨rfl, rfl⟩
  · have e1 : decide (lo ≤ n ∧ n ≤ hi) = false := by simp [h1]
    rw [e1]
    clear e1
    go_enter Try.func27, Try.ntmps27
    go_wp2
    go_ret
    exact ⟨rfl, rfl⟩
theorem mod_none (w : World) (bm bt tb lb : Nat) (c : Cfg) (B : Int) (L : List Ent) (h : MAt w bm bt tb lb c B L) : Calls Try.prog 33 #[.pointer (some ⟨bm, 0, none⟩)] w fun e w' => e = .returned (.bool false) ∧ w = w' := by
  have c5 := h.1.cell 5
  clear h
  go_enter Try.func33, Try.ntmps33
  go_wp2
  go_ret
  exact ⟨rfl, rfl⟩
theorem mod_none_nil (w : World) : Calls Try.prog 33 #[.pointer none] w fun e w' => e = .returned (.bool true) ∧ w = w' := by
  go_enter Try.func33, Try.ntmps33
  go_wp2
  go_ret
  exact ⟨rfl, rfl⟩
theorem mod_none_zero (w : World) (bm : Nat) (h : w.cell? ⟨bm, 5, none⟩ = some (.pointer none)) : Calls Try.prog 33 #[.pointer (some ⟨bm, 0, none⟩)] w fun e w' => e = .returned (.bool true) ∧ w = w' := by
  go_enter Try.func33, Try.ntmps33
  go_wp2
  go_ret
  exact ⟨rfl, rfl⟩
set_option maxRecDepth 100000 in
theorem mod_counts (w : World) (bm bt tb lb : Nat) (c : Cfg) (B : Int) (L : List Ent) (h : MAt w bm bt tb lb c B L) (k : Kn) :
    Calls Try.prog 26 #[.pointer (some ⟨bm, 0, none⟩), k.val] w fun e w' => e = .returned (Kn.val { k with left := wrap64 (wrap64 (8 * k.came) - k.gone), free := wrap64 (wrap64 (c.room - k.came) + wrap64 (k.gone.tdiv 8)) }) ∧ Below w.heap.size w w' := by
  obtain ⟨ca, en, cz, q, l, f, fr, p, g⟩ := k
  dsimp only [Kn.val, Kn.seen]
  have H := Lib.hid h
  have c3 := h.1.cell 3
  clear h
  go_enter Try.func26, Try.ntmps26
  go_wp2_with fail
  have hX := ((Blk.new w 59 #[.int .i64 ca, .bool en, .int .i64 cz, .int .i64 q, .int .i64 (wrap64 (wrap64 (8 * ca) - g)), .int .i64 f, .int .i64 fr, .int .i64 p, .int .i64 g]).alloc (.cells #[.int .i64 0, .bool false, .int .i64 0, .int .i64 0, .int .i64 0, .int .i64 0, .int .i64 0, .int .i64 0, .int .i64 0] 59))
  have hB : Below w.heap.size w ((w.alloc (.cells #[.int .i64 ca, .bool en, .int .i64 cz, .int .i64 q, .int .i64 (wrap64 (wrap64 (8 * ca) - g)), .int .i64 f, .int .i64 fr, .int .i64 p, .int .i64 g] 59)).alloc (.cells #[.int .i64 0, .bool false, .int .i64 0, .int .i64 0, .int .i64 0, .int .i64 0, .int .i64 0, .int .i64 0, .int .i64 0] 59)) := ((Below.refl _ _).alloc (Nat.le_refl _) _).alloc (by simp) _
  have HX := Lib.hid hX
  have HM := Lib.hid (H.out.1.below hB H.out.1.lt)
  clear hX hB
  refine wp_region_plan2 (fun W => Blk W bm 49 #[.int .i64 c.sess, .int .i64 c.frames, .int .i64 c.quota, .int .i64 c.room, .int .i64 c.slots, .pointer (some ⟨bt, 0, none⟩), .map (some lb)] ∧ Blk W w.heap.size 59 #[.int .i64 ca, .bool en, .int .i64 cz, .int .i64 q, .int .i64 (wrap64 (wrap64 (8 * ca) - g)), .int .i64 f, .int .i64 fr, .int .i64 p, .int .i64 g]) 12 [(0, true), (1, true), (2, true), (3, true), (4, true), (5, true), (6, true), (7, true), (8, true), (9, true), (10, true), (11, true)] (by kernel_rfl) (by kernel_rfl) (fun _ _ d _ _ h => by cases d <;> exact h) (by decide) (by simp only [List.map_cons, List.map_nil, Array.getD_eq_getD_getElem?, List.getElem?_toArray, List.getElem?_cons_zero, List.getElem?_cons_succ, Option.getD_some]; rfl) (by simp only [List.map_cons, List.map_nil]; rfl) (⟨HM.out.drew', HX.out.drew'⟩) (fun PE hPE => ?_)
  refine plan_take (v := ?_) rfl (by rfl) ?_ ?_
  rotate_left
  · intro _ hSw; (try dsimp only at hSw); have d3 := hSw.1.cell 3; have e0 := hSw.2.cell 0; have e8 := hSw.2.cell 8; go_simp; (try with_reducible rfl)
  simp only [List.setIfInBounds_toArray, List.set_cons_zero, List.set_cons_succ]
  refine plan_take (v := ?_) rfl (by rfl) ?_ ?_
  rotate_left
  · intro _ hSw; (try dsimp only at hSw); have d3 := hSw.1.cell 3; have e0 := hSw.2.cell 0; have e8 := hSw.2.cell 8; go_simp; (try with_reducible rfl)
  simp only [List.setIfInBounds_toArray, List.set_cons_zero, List.set_cons_succ]
  refine plan_take (v := ?_) rfl (by rfl) ?_ ?_
  rotate_left
  · intro _ hSw; (try dsimp only at hSw); have d3 := hSw.1.cell 3; have e0 := hSw.2.cell 0; have e8 := hSw.2.cell 8; go_simp; (try with_reducible rfl)
  simp only [List.setIfInBounds_toArray, List.set_cons_zero, List.set_cons_succ]
  refine plan_take (v := ?_) rfl (by rfl) ?_ ?_
  rotate_left
  · intro _ hSw; (try dsimp only at hSw); have d3 := hSw.1.cell 3; have e0 := hSw.2.cell 0; have e8 := hSw.2.cell 8; go_simp; (try with_reducible rfl)
  simp only [List.setIfInBounds_toArray, List.set_cons_zero, List.set_cons_succ]
  refine plan_take (v := ?_) rfl (by rfl) ?_ ?_
  rotate_left
  · intro _ hSw; (try dsimp only at hSw); have d3 := hSw.1.cell 3; have e0 := hSw.2.cell 0; have e8 := hSw.2.cell 8; go_simp; (try with_reducible rfl)
  simp only [List.setIfInBounds_toArray, List.set_cons_zero, List.set_cons_succ]
  refine plan_take (v := ?_) rfl (by rfl) ?_ ?_
  rotate_left
  · intro _ hSw; (try dsimp only at hSw); have d3 := hSw.1.cell 3; have e0 := hSw.2.cell 0; have e8 := hSw.2.cell 8; go_simp; (try with_reducible rfl)
  simp only [List.setIfInBounds_toArray, List.set_cons_zero, List.set_cons_succ]
  refine plan_take (v := ?_) rfl (by rfl) ?_ ?_
  rotate_left
  · intro _ hSw; (try dsimp only at hSw); have d3 := hSw.1.cell 3; have e0 := hSw.2.cell 0; have e8 := hSw.2.cell 8; go_simp; (try with_reducible rfl)
  simp only [List.setIfInBounds_toArray, List.set_cons_zero, List.set_cons_succ]
  refine plan_take (v := ?_) rfl (by rfl) ?_ ?_
  rotate_left
  · intro _ hSw; (try dsimp only at hSw); have d3 := hSw.1.cell 3; have e0 := hSw.2.cell 0; have e8 := hSw.2.cell 8; go_simp; (try with_reducible rfl)
  simp only [List.setIfInBounds_toArray, List.set_cons_zero, List.set_cons_succ]
  refine plan_take (v := ?_) rfl (by rfl) ?_ ?_
  rotate_left
  · intro _ hSw; (try dsimp only at hSw); have d3 := hSw.1.cell 3; have e0 := hSw.2.cell 0; have e8 := hSw.2.cell 8; go_simp; (try with_reducible rfl)
  simp only [List.setIfInBounds_toArray, List.set_cons_zero, List.set_cons_succ]
  refine plan_take (v := ?_) rfl (by rfl) ?_ ?_
  rotate_left
  · intro _ hSw; (try dsimp only at hSw); have d3 := hSw.1.cell 3; have e0 := hSw.2.cell 0; have e8 := hSw.2.cell 8; go_simp; (try with_reducible rfl)
  simp only [List.setIfInBounds_toArray, List.set_cons_zero, List.set_cons_succ]
  refine plan_take (v := ?_) rfl (by rfl) ?_ ?_
  rotate_left
  · intro _ hSw; (try dsimp only at hSw); have d3 := hSw.1.cell 3; have e0 := hSw.2.cell 0; have e8 := hSw.2.cell 8; go_simp; (try with_reducible rfl)
  simp only [List.setIfInBounds_toArray, List.set_cons_zero, List.set_cons_succ]
  refine plan_take (v := ?_) rfl (by rfl) ?_ ?_
  rotate_left
  · intro _ hSw; (try dsimp only at hSw); have d3 := hSw.1.cell 3; have e0 := hSw.2.cell 0; have e8 := hSw.2.cell 8; go_simp; (try with_reducible rfl)
  simp only [List.setIfInBounds_toArray, List.set_cons_zero, List.set_cons_succ]
  (refine hPE _ _ ?_; simp only [List.drop_succ_cons, List.drop_zero]; clear hPE PE)
  go_wp2_with fail
  refine bodyPost_ret (by simp [results, Try.results26, go_sem]; try rfl) rfl ?_
  refine ⟨rfl, ?_⟩
  exact (((Below.refl _ _).alloc (Nat.le_refl _) _).alloc (by simp) _).drew
end Go.Proofs.Ytklelheejopfmaa
