/- Mod1, Mod2, Up -/
import Derived.Test.YtklelheejopfmaaGreatK11
import Derived.Test.YtklelheejopfmaaGreatK08
import Derived.Test.YtklelheejopfmaaGreatK10
namespace Go.Proofs.YtklelheejopfmaaGreat
open Go Go.RowKit Go.Maps
attribute [local go_sem] Oper.semAt_some
structure Cfg where
  sess : Int
  frames : Int
  quota : Int
  room : Int
  slots : Int
def CfgOk (c : Cfg) : Prop := 1 ≤ c.sess ∧ c.sess ≤ 64 ∧ 1 ≤ c.frames ∧ c.frames ≤ 64 ∧ 2 ≤ c.quota ∧ c.quota ≤ c.frames ∧ 1024 ≤ c.room ∧ c.room ≤ 1048576 ∧ 1 ≤ c.slots ∧ c.slots ≤ 1000
def KnOk (c : Cfg) (B : Int) (k : Kn) : Prop := 0 ≤ k.gone ∧ k.gone ≤ 8 * k.came ∧ 0 ≤ k.came ∧ k.came ≤ B ∧ k.left = 8 * k.came - k.gone ∧ k.free = c.room - k.came + k.gone / 8 ∧ 0 ≤ k.free ∧ 0 ≤ k.queued ∧ 0 ≤ k.frames ∧ k.frames ≤ c.quota
def MAt (w : World) (bm bt tb lb : Nat) (c : Cfg) (B : Int) (L : List Ent) : Prop :=
  Blk w bm 56 #[.int .i64 c.sess, .int .i64 c.frames, .int .i64 c.quota, .int .i64 c.room, .int .i64 c.slots, .pointer (some ⟨bt, 0, none⟩), .map (some lb)] ∧ TabAt w bt tb c.sess L ∧ w.ownsMap Tryz.prog 3 heldR lb L.length (numD gL L) ∧ tb ≠ lb ∧ CfgOk c ∧
    (∀ x ∈ L, KnOk c B x.2) ∧ (((liveK L).length : Int) ≤ c.sess) ∧ B ≤ 2 ^ 45
theorem MAt.later {w w' : World} {bm bt tb lb : Nat} {c : Cfg} {B : Int} {L : List Ent} (h : MAt w bm bt tb lb c B L) (hb : Below w.heap.size w w') : MAt w' bm bt tb lb c B L :=
  ⟨h.1.below hb h.1.lt, h.2.1.later hb, own_later h.2.2.1 hb, h.2.2.2⟩
theorem mod_within (n lo hi : Int) (w : World) : Calls Tryz.prog 16 #[.int .i64 n, .int .i64 lo, .int .i64 hi] w fun e w' => e = .returned (.bool (decide (lo ≤ n ∧ n ≤ hi))) ∧ w = w' := by
  by_cases h1 : lo ≤ n
  · have e1 : decide (lo ≤ n ∧ n ≤ hi) = decide (n ≤ hi) := by simp [h1]
    rw [e1]
    clear e1
    go_enter Tryz.func16, Tryz.ntmps16
    go_wp2
    go_ret
    exact ⟨rfl, rfl⟩
  · have e1 : decide (lo ≤ n ∧ n ≤ hi) = false := by simp [h1]
    rw [e1]
    clear e1
    go_enter Tryz.func16, Tryz.ntmps16
    go_wp2
    go_ret
    exact ⟨rfl, rfl⟩
theorem mod_none (w : World) (bm bt tb lb : Nat) (c : Cfg) (B : Int) (L : List Ent) (h : MAt w bm bt tb lb c B L) : Calls Tryz.prog 39 #[.pointer (some ⟨bm, 0, none⟩)] w fun e w' => e = .returned (.bool false) ∧ w = w' := by
  have c5 := h.1.cell 5
  clear h
  go_enter Tryz.func39, Tryz.ntmps39
  go_wp2
  go_ret
  exact ⟨rfl, rfl⟩
theorem mod_none_nil (w : World) : Calls Tryz.prog 39 #[.pointer none] w fun e w' => e = .returned (.bool true) ∧ w = w' := by
  go_enter Tryz.func39, Tryz.ntmps39
  go_wp2
  go_ret
  exact ⟨rfl, rfl⟩
theorem mod_none_zero (w : World) (bm : Nat) (h : w.cell? ⟨bm, 5, none⟩ = some (.pointer none)) : Calls Tryz.prog 39 #[.pointer (some ⟨bm, 0, none⟩)] w fun e w' => e = .returned (.bool true) ∧ w = w' := by
  go_enter Tryz.func39, Tryz.ntmps39
  go_wp2
  go_ret
  exact ⟨rfl, rfl⟩
set_option maxRecDepth 100000 in
theorem mod_counts (w : World) (bm bt tb lb : Nat) (c : Cfg) (B : Int) (L : List Ent) (h : MAt w bm bt tb lb c B L) (k : Kn) :
    Calls Tryz.prog 45 #[.pointer (some ⟨bm, 0, none⟩), k.val] w fun e w' => e = .returned (Kn.val { k with left := wrap64 (wrap64 (8 * k.came) - k.gone), free := wrap64 (wrap64 (c.room - k.came) + wrap64 (k.gone.tdiv 8)) }) ∧ Below w.heap.size w w' := by
  obtain ⟨ca, en, cz, q, l, f, fr, p, g⟩ := k
  dsimp only [Kn.val, Kn.seen]
  have H := Lib.hid h
  have c3 := h.1.cell 3
  clear h
  go_enter Tryz.func45, Tryz.ntmps45
  go_wp2_with fail
  have hX := ((Blk.new w 72 #[.int .i64 ca, .bool en, .int .i64 cz, .int .i64 q, .int .i64 (wrap64 (wrap64 (8 * ca) - g)), .int .i64 f, .int .i64 fr, .int .i64 p, .int .i64 g]).alloc (.cells #[.int .i64 0, .bool false, .int .i64 0, .int .i64 0, .int .i64 0, .int .i64 0, .int .i64 0, .int .i64 0, .int .i64 0] 72))
  have hB : Below w.heap.size w ((w.alloc (.cells #[.int .i64 ca, .bool en, .int .i64 cz, .int .i64 q, .int .i64 (wrap64 (wrap64 (8 * ca) - g)), .int .i64 f, .int .i64 fr, .int .i64 p, .int .i64 g] 72)).alloc (.cells #[.int .i64 0, .bool false, .int .i64 0, .int .i64 0, .int .i64 0, .int .i64 0, .int .i64 0, .int .i64 0, .int .i64 0] 72)) := ((Below.refl _ _).alloc (Nat.le_refl _) _).alloc (by simp) _
  have HX := Lib.hid hX
  have HM := Lib.hid (H.out.1.below hB H.out.1.lt)
  clear hX hB
  refine wp_region_plan2 (fun W => Blk W bm 56 #[.int .i64 c.sess, .int .i64 c.frames, .int .i64 c.quota, .int .i64 c.room, .int .i64 c.slots, .pointer (some ⟨bt, 0, none⟩), .map (some lb)] ∧ Blk W w.heap.size 72 #[.int .i64 ca, .bool en, .int .i64 cz, .int .i64 q, .int .i64 (wrap64 (wrap64 (8 * ca) - g)), .int .i64 f, .int .i64 fr, .int .i64 p, .int .i64 g]) 12 [(0, true), (1, true), (2, true), (3, true), (4, true), (5, true), (6, true), (7, true), (8, true), (9, true), (10, true), (11, true)] (by kernel_rfl) (by kernel_rfl) (fun _ _ d _ _ h => by cases d <;> exact h) (by decide) (by simp only [List.map_cons, List.map_nil, Array.getD_eq_getD_getElem?, List.getElem?_toArray, List.getElem?_cons_zero, List.getElem?_cons_succ, Option.getD_some]; rfl) (by simp only [List.map_cons, List.map_nil]; rfl) (⟨HM.out.drew', HX.out.drew'⟩) (fun PE hPE => ?_)
  refine plan_take (v := ?_) rfl (by rfl) ?_ ?_
  rotate_left
  · intro _ hSw; (try dsimp only at hSw); have d3 := hSw.1.cell 3; have e0 := hSw.2.cell 0; have e8 := hSw.2.cell 8; go_simp; (try with_reducible rfl)
  simp only [List.setIfInBounds_toArray, List.set_cons_zero, List.set_cons_succ]
  refine plan_take (v := ?_) rfl (by rfl) ?_ ?_
  rotate_left
  · intro _ hSw; (try dsimp only at hSw); have d3 := hSw.1.cell 3; have e0 := hSw.2.cell 0; have e8 := hSw.2.cell 8; go_simp; (try with_reducible rfl)
  simp only [List.setIfInBounds_toArray, List.set_cons_zero, List.set_cons_succ]
  refine plan_take (v := ?_) rfl (by rfl) ?_ ?_
  rotate_left
  · intro _ hSw; (try dsimp only at hSw); have d3 := hSw.1.cell 3; have e0 := hSw.2.cell 0; have e8 := hSw.2.cell 8; go_simp; (try with_reducible rfl)
  simp only [List.setIfInBounds_toArray, List.set_cons_zero, List.set_cons_succ]
  refine plan_take (v := ?_) rfl (by rfl) ?_ ?_
  rotate_left
  · intro _ hSw; (try dsimp only at hSw); have d3 := hSw.1.cell 3; have e0 := hSw.2.cell 0; have e8 := hSw.2.cell 8; go_simp; (try with_reducible rfl)
  simp only [List.setIfInBounds_toArray, List.set_cons_zero, List.set_cons_succ]
  refine plan_take (v := ?_) rfl (by rfl) ?_ ?_
  rotate_left
  · intro _ hSw; (try dsimp only at hSw); have d3 := hSw.1.cell 3; have e0 := hSw.2.cell 0; have e8 := hSw.2.cell 8; go_simp; (try with_reducible rfl)
  simp only [List.setIfInBounds_toArray, List.set_cons_zero, List.set_cons_succ]
  refine plan_take (v := ?_) rfl (by rfl) ?_ ?_
  rotate_left
  · intro _ hSw; (try dsimp only at hSw); have d3 := hSw.1.cell 3; have e0 := hSw.2.cell 0; have e8 := hSw.2.cell 8; go_simp; (try with_reducible rfl)
  simp only [List.setIfInBounds_toArray, List.set_cons_zero, List.set_cons_succ]
  refine plan_take (v := ?_) rfl (by rfl) ?_ ?_
  rotate_left
  · intro _ hSw; (try dsimp only at hSw); have d3 := hSw.1.cell 3; have e0 := hSw.2.cell 0; have e8 := hSw.2.cell 8; go_simp; (try with_reducible rfl)
  simp only [List.setIfInBounds_toArray, List.set_cons_zero, List.set_cons_succ]
  refine plan_take (v := ?_) rfl (by rfl) ?_ ?_
  rotate_left
  · intro _ hSw; (try dsimp only at hSw); have d3 := hSw.1.cell 3; have e0 := hSw.2.cell 0; have e8 := hSw.2.cell 8; go_simp; (try with_reducible rfl)
  simp only [List.setIfInBounds_toArray, List.set_cons_zero, List.set_cons_succ]
  refine plan_take (v := ?_) rfl (by rfl) ?_ ?_
  rotate_left
  · intro _ hSw; (try dsimp only at hSw); have d3 := hSw.1.cell 3; have e0 := hSw.2.cell 0; have e8 := hSw.2.cell 8; go_simp; (try with_reducible rfl)
  simp only [List.setIfInBounds_toArray, List.set_cons_zero, List.set_cons_succ]
  refine plan_take (v := ?_) rfl (by rfl) ?_ ?_
  rotate_left
  · intro _ hSw; (try dsimp only at hSw); have d3 := hSw.1.cell 3; have e0 := hSw.2.cell 0; have e8 := hSw.2.cell 8; go_simp; (try with_reducible rfl)
  simp only [List.setIfInBounds_toArray, List.set_cons_zero, List.set_cons_succ]
  refine plan_take (v := ?_) rfl (by rfl) ?_ ?_
  rotate_left
  · intro _ hSw; (try dsimp only at hSw); have d3 := hSw.1.cell 3; have e0 := hSw.2.cell 0; have e8 := hSw.2.cell 8; go_simp; (try with_reducible rfl)
  simp only [List.setIfInBounds_toArray, List.set_cons_zero, List.set_cons_succ]
  refine plan_take (v := ?_) rfl (by rfl) ?_ ?_
  rotate_left
  · intro _ hSw; (try dsimp only at hSw); have d3 := hSw.1.cell 3; have e0 := hSw.2.cell 0; have e8 := hSw.2.cell 8; go_simp; (try with_reducible rfl)
  simp only [List.setIfInBounds_toArray, List.set_cons_zero, List.set_cons_succ]
  (refine hPE _ _ ?_; simp only [List.drop_succ_cons, List.drop_zero]; clear hPE PE)
  go_wp2_with fail
  refine bodyPost_ret (by simp [results, Tryz.results45, go_sem]; try rfl) rfl ?_
  refine ⟨rfl, ?_⟩
  exact (((Below.refl _ _).alloc (Nat.le_refl _) _).alloc (by simp) _).drew
end Go.Proofs.YtklelheejopfmaaGreat
namespace Go.Proofs.YtklelheejopfmaaGreat
open Go Go.RowKit Go.Maps
attribute [local go_sem] Oper.semAt_some
theorem wrap64_id {x : Int} (h1 : -9223372036854775808 ≤ x) (h2 : x ≤ 9223372036854775807) : wrap64 x = x := by unfold wrap64; omega
theorem tdiv8 {g : Int} (h : 0 ≤ g) : g.tdiv 8 = g / 8 := Int.tdiv_eq_ediv_of_nonneg h
theorem set9_blk {w : World} {b : Nat} {t : TypeId} {c0 c1 c2 c3 c4 c5 c6 c7 c8 : Value} (h : Blk w b t #[c0, c1, c2, c3, c4, c5, c6, c7, c8]) (v0 v1 v2 v3 v4 v5 v6 v7 v8 : Value) : Blk (((((((((w.setCell ⟨b, 0, none⟩ v0).setCell ⟨b, 1, none⟩ v1).setCell ⟨b, 2, none⟩ v2).setCell ⟨b, 3, none⟩ v3).setCell ⟨b, 4, none⟩ v4).setCell ⟨b, 5, none⟩ v5).setCell ⟨b, 6, none⟩ v6).setCell ⟨b, 7, none⟩ v7).setCell ⟨b, 8, none⟩ v8) b t #[v0, v1, v2, v3, v4, v5, v6, v7, v8] := by
  have h1 := ((((((((h.set_ 0 v0).set_ 1 v1).set_ 2 v2).set_ 3 v3).set_ 4 v4).set_ 5 v5).set_ 6 v6).set_ 7 v7).set_ 8 v8
  simpa only [List.setIfInBounds_toArray, List.set_cons_zero, List.set_cons_succ] using h1
theorem set9_below {B : Nat} {a w : World} {b : Nat} (h : Below B a w) (hb : B ≤ b) (v0 v1 v2 v3 v4 v5 v6 v7 v8 : Value) : Below B a (((((((((w.setCell ⟨b, 0, none⟩ v0).setCell ⟨b, 1, none⟩ v1).setCell ⟨b, 2, none⟩ v2).setCell ⟨b, 3, none⟩ v3).setCell ⟨b, 4, none⟩ v4).setCell ⟨b, 5, none⟩ v5).setCell ⟨b, 6, none⟩ v6).setCell ⟨b, 7, none⟩ v7).setCell ⟨b, 8, none⟩ v8) :=
  ((((((((h.setCell (p := ⟨b, 0, none⟩) hb v0).setCell (p := ⟨b, 1, none⟩) hb v1).setCell (p := ⟨b, 2, none⟩) hb v2).setCell (p := ⟨b, 3, none⟩) hb v3).setCell (p := ⟨b, 4, none⟩) hb v4).setCell (p := ⟨b, 5, none⟩) hb v5).setCell (p := ⟨b, 6, none⟩) hb v6).setCell (p := ⟨b, 7, none⟩) hb v7).setCell (p := ⟨b, 8, none⟩) hb v8
def fedK (k : Kn) (t : Int) : Kn := { k with came := k.came + t, left := k.left + 8 * t, free := k.free - t }
def feedF (k : Kn) (n : Int) : Int × Int × Kn := if n < 0 then (0, 3, k) else if k.ended = true then (0, 20, k) else (min n k.free, 0, fedK k (min n k.free))
set_option maxRecDepth 100000 in
set_option maxHeartbeats 1000000 in
theorem mod_Feed1 (w : World) (bm bt tb lb bn bp : Nat) (c : Cfg) (B : Int) (L : List Ent) (h : MAt w bm bt tb lb c B L) (k : Kn) (hk : KnOk c B k) (n : Int) (hn : Blk w bn 3 #[.int .i64 n]) (hp : Blk w bp 25 #[.pointer (some ⟨bm, 0, none⟩)]) :
    Calls Tryz.prog 51 #[k.val, .pointer (some ⟨bn, 0, none⟩), .pointer (some ⟨bp, 0, none⟩)] w fun e w' => e = .returned (.tuple #[(feedF k n).2.2.val, .int .i64 (feedF k n).1, .int .i64 (feedF k n).2.1]) ∧ Below w.heap.size w w' := by
  obtain ⟨ca, en, cz, q, l, f, fr, p, g⟩ := k
  have H := Lib.hid h
  have HK := Lib.hid hk
  have n0 := ((hn.alloc (.cells #[.int .i64 ca, .bool en, .int .i64 cz, .int .i64 q, .int .i64 l, .int .i64 f, .int .i64 fr, .int .i64 p, .int .i64 g] 72)).alloc (.cells #[.int .i64 0, .bool false, .int .i64 0, .int .i64 0, .int .i64 0, .int .i64 0, .int .i64 0, .int .i64 0, .int .i64 0] 72)).cell 0
  obtain ⟨r, hr⟩ : ∃ r, feedF ⟨ca, en, cz, q, l, f, fr, p, g⟩ n = r := ⟨_, rfl⟩
  rw [hr]
  unfold feedF at hr
  by_cases h0 : n < 0
  · rw [if_pos h0] at hr
    subst hr
    clear h hk hp hn
    go_enter Tryz.func51, Tryz.ntmps51
    go_wp2_with fail
    refine bodyPost_ret (by simp [results, Tryz.results51, go_sem]; try rfl) rfl ?_
    exact ⟨rfl, ((Below.refl _ _).alloc (Nat.le_refl _) _).alloc (by simp) _⟩
  rw [if_neg h0] at hr
  cases en with
  | true =>
    rw [if_pos rfl] at hr
    subst hr
    clear h hk hp hn
    go_enter Tryz.func51, Tryz.ntmps51
    go_wp2_with fail
    refine bodyPost_ret (by simp [results, Tryz.results51, go_sem]; try rfl) rfl ?_
    exact ⟨rfl, ((Below.refl _ _).alloc (Nat.le_refl _) _).alloc (by simp) _⟩
  | false =>
    rw [if_neg (by simp)] at hr
    subst hr
    have p0 : ∀ o1 o2, ((w.alloc o1).alloc o2).cell? ⟨bp, 0, none⟩ = some (.pointer (some ⟨bm, 0, none⟩)) := fun o1 o2 => ((hp.alloc o1).alloc o2).cell 0
    obtain ⟨t, ht⟩ : ∃ t, min n f = t := ⟨_, rfl⟩
    obtain ⟨hk1, hk2, hk3, hk4, hk5, hk6, hk7, hk8, hk9, hk10⟩ := hk
    dsimp only at hk1 hk2 hk3 hk4 hk5 hk6 hk7 hk8 hk9 hk10
    have hc := h.2.2.2.2.1
    have hBB := h.2.2.2.2.2.2.2
    have ht0 : 0 ≤ t ∧ t ≤ f := by omega
    have hro : c.room ≤ 1048576 := hc.2.2.2.2.2.2.2.1
    have ha : wrap64 (ca + t) = ca + t := wrap64_id (by omega) (by omega)
    have hl1 : wrap64 (8 * (ca + t)) = 8 * (ca + t) := wrap64_id (by omega) (by omega)
    have hl2 : wrap64 (8 * (ca + t) - g) = l + 8 * t := by rw [wrap64_id (by omega) (by omega)]; omega
    have hg1 : g.tdiv 8 = g / 8 := tdiv8 hk1
    have hg2 : wrap64 (g / 8) = g / 8 := wrap64_id (by omega) (by omega)
    have hr1 : wrap64 (c.room - (ca + t)) = c.room - (ca + t) := wrap64_id (by omega) (by omega)
    have hr2 : wrap64 (c.room - (ca + t) + g / 8) = f - t := by rw [wrap64_id (by omega) (by omega)]; omega
    have HA := Lib.hid (And.intro hl1 (And.intro hl2 (And.intro hg1 (And.intro hg2 (And.intro hr1 hr2)))))
    clear h hk1 hk2 hk3 hk4 hk5 hk6 hk7 hk8 hk9 hk10 hp hn hc hBB ht0 hro hl1 hl2 hg1 hg2 hr1 hr2
    rw [ht]
    have BB := Lib.hid (show Below w.heap.size w ((w.alloc (.cells #[.int .i64 (ca + t), .bool false, .int .i64 cz, .int .i64 q, .int .i64 l, .int .i64 f, .int .i64 fr, .int .i64 p, .int .i64 g] 72)).alloc (.cells #[.int .i64 0, .bool false, .int .i64 0, .int .i64 0, .int .i64 0, .int .i64 0, .int .i64 0, .int .i64 0, .int .i64 0] 72)) from ((Below.refl _ _).alloc (Nat.le_refl _) _).alloc (by simp) _)
    have BR := Lib.hid ((Blk.new (w.alloc (.cells #[.int .i64 (ca + t), .bool false, .int .i64 cz, .int .i64 q, .int .i64 l, .int .i64 f, .int .i64 fr, .int .i64 p, .int .i64 g] 72)) 72 #[.int .i64 0, .bool false, .int .i64 0, .int .i64 0, .int .i64 0, .int .i64 0, .int .i64 0, .int .i64 0, .int .i64 0]).at_eq (World.size_alloc w _))
    go_enter Tryz.func51, Tryz.ntmps51
    go_wp2_with (go_at_call 45; refine (mod_counts _ bm bt tb lb c B L (H.out.later BB.out) ⟨ca + t, false, cz, q, l, f, fr, p, g⟩).mono ?_; rintro e w1 ⟨rfl, hb1⟩; dsimp only [Kn.val]; rw [HA.out.1, HA.out.2.1, HA.out.2.2.1, HA.out.2.2.2.1, HA.out.2.2.2.2.1, HA.out.2.2.2.2.2]; have hb2 := BR.out.below hb1 BR.out.lt; have q0 := hb2.cell 0; have q1 := hb2.cell 1; have q2 := hb2.cell 2; have q3 := hb2.cell 3; have q4 := hb2.cell 4; have q5 := hb2.cell 5; have q6 := hb2.cell 6; have q7 := hb2.cell 7; have q8 := hb2.cell 8; have g0 := hb2.frozen 0; have g1 := hb2.frozen 1; have g2 := hb2.frozen 2; have g3 := hb2.frozen 3; have g4 := hb2.frozen 4; have g5 := hb2.frozen 5; have g6 := hb2.frozen 6; have g7 := hb2.frozen 7; have g8 := hb2.frozen 8; have HB1 := Lib.hid (BB.out.trans (hb1.mono BB.out.size)); have HR2 := Lib.hid hb2; clear hb1 hb2)
    have hZ := set9_blk HR2.out (.int .i64 (ca + t)) (.bool false) (.int .i64 cz) (.int .i64 q) (.int .i64 (l + 8 * t)) (.int .i64 (f - t)) (.int .i64 fr) (.int .i64 p) (.int .i64 g)
    have z0 := hZ.cell 0; have z1 := hZ.cell 1; have z2 := hZ.cell 2; have z3 := hZ.cell 3; have z4 := hZ.cell 4; have z5 := hZ.cell 5; have z6 := hZ.cell 6; have z7 := hZ.cell 7; have z8 := hZ.cell 8
    refine bodyPost_ret (by simp [results, Tryz.results51, go_sem, z0, z1, z2, z3, z4, z5, z6, z7, z8]; try rfl) rfl ?_
    exact ⟨rfl, set9_below HB1.out (Nat.le_succ _) _ _ _ _ _ _ _ _ _⟩
def endK (k : Kn) : Int × Kn := if k.ended = true then (20, k) else (0, { k with ended := true })
set_option maxRecDepth 100000 in
theorem mod_End1 (w : World) (k : Kn) :
    Calls Tryz.prog 54 #[k.val] w fun e w' => e = .returned (.tuple #[(endK k).2.val, .int .i64 0, .int .i64 (endK k).1]) ∧ Below w.heap.size w w' := by
  obtain ⟨ca, en, cz, q, l, f, fr, p, g⟩ := k
  cases en with
  | true =>
    show Calls _ _ _ _ (fun e w' => e = .returned (.tuple #[Kn.val ⟨ca, true, cz, q, l, f, fr, p, g⟩, .int .i64 0, .int .i64 20]) ∧ _)
    go_enter Tryz.func54, Tryz.ntmps54
    go_wp2_with fail
    refine bodyPost_ret (by simp [results, Tryz.results54, go_sem]; try rfl) rfl ?_
    exact ⟨rfl, ((Below.refl _ _).alloc (Nat.le_refl _) _).alloc (by simp) _⟩
  | false =>
    show Calls _ _ _ _ (fun e w' => e = .returned (.tuple #[Kn.val ⟨ca, true, cz, q, l, f, fr, p, g⟩, .int .i64 0, .int .i64 0]) ∧ _)
    go_enter Tryz.func54, Tryz.ntmps54
    go_wp2_with fail
    refine bodyPost_ret (by simp [results, Tryz.results54, go_sem]; try rfl) rfl ?_
    exact ⟨rfl, ((Below.refl _ _).alloc (Nat.le_refl _) _).alloc (by simp) _⟩
set_option maxRecDepth 100000 in
theorem mod_out1 (w : World) (k : Kn) :
    Calls Tryz.prog 64 #[k.val] w fun e w' => e = .returned (.tuple #[k.val, .int .i64 0, .int .i64 0]) ∧ Below w.heap.size w w' := by
  obtain ⟨ca, en, cz, q, l, f, fr, p, g⟩ := k
  go_enter Tryz.func64, Tryz.ntmps64
  go_wp2_with fail
  refine bodyPost_ret (by simp [results, Tryz.results64, go_sem]; try rfl) rfl ?_
  exact ⟨rfl, ((Below.refl _ _).alloc (Nat.le_refl _) _).alloc (by simp) _⟩
def drainK (k : Kn) : Int × Kn × Kn := if k.queued = 0 ∧ k.cause = 0 then (16, k, Kn.zero) else (0, { k with queued := max (k.queued - 1) 0 }, k)
set_option maxRecDepth 100000 in
set_option maxHeartbeats 1000000 in
theorem mod_Drain1 (w : World) (k : Kn) (hq : 0 ≤ k.queued) (hq2 : k.queued ≤ 9223372036854775807) :
    Calls Tryz.prog 47 #[k.val] w fun e w' => e = .returned (.tuple #[(drainK k).2.1.val, (drainK k).2.2.seen, .int .i64 (drainK k).1]) ∧ Below w.heap.size w w' := by
  obtain ⟨ca, en, cz, q, l, f, fr, p, g⟩ := k
  dsimp only at hq hq2
  by_cases h0 : q = 0 ∧ cz = 0
  · obtain ⟨rfl, rfl⟩ := h0
    show Calls _ _ _ _ (fun e w' => e = .returned (.tuple #[Kn.val ⟨ca, en, 0, 0, l, f, fr, p, g⟩, Kn.zero.seen, .int .i64 16]) ∧ _)
    go_enter Tryz.func47, Tryz.ntmps47
    go_wp2_with fail
    refine bodyPost_ret (by simp [results, Tryz.results47, go_sem]; try rfl) rfl ?_
    exact ⟨rfl, (((Below.refl _ _).alloc (Nat.le_refl _) _).alloc (by simp) _).alloc (by simp; omega) _⟩
  · have hr : drainK ⟨ca, en, cz, q, l, f, fr, p, g⟩ = (0, ⟨ca, en, cz, max (q - 1) 0, l, f, fr, p, g⟩, ⟨ca, en, cz, q, l, f, fr, p, g⟩) := by unfold drainK; rw [if_neg h0]
    rw [hr]
    dsimp only
    have hw : wrap64 (q - 1) = q - 1 := wrap64_id (by omega) (by omega)
    clear hr
    by_cases hq0 : q = 0
    · have hz : (cz == 0) = false := beq_eq_false_iff_ne.2 (fun e => h0 ⟨hq0, e⟩)
      have hqb : (q == 0) = true := beq_iff_eq.2 hq0
      clear hq0 h0
      go_enter Tryz.func47, Tryz.ntmps47
      go_wp2_with fail
      have HX := Lib.hid ((((Blk.new w 72 #[.int .i64 ca, .bool en, .int .i64 cz, .int .i64 (max (q - 1) 0), .int .i64 l, .int .i64 f, .int .i64 fr, .int .i64 p, .int .i64 g]).alloc (.cells #[.int .i64 0, .bool false, .int .i64 0, .int .i64 0, .int .i64 0, .int .i64 0, .int .i64 0, .int .i64 0, .int .i64 0] 72)).alloc (.cells #[.int .i64 0, .int .i64 0, .int .i64 0, .int .i64 0, .int .i64 0, .int .i64 0, .int .i64 0] 35)).alloc (.cells #[.int .i64 cz, .int .i64 q, .int .i64 l, .int .i64 f, .int .i64 fr, .int .i64 p, .int .i64 g] 35))
      have HY := Lib.hid ((Blk.new (((w.alloc (.cells #[.int .i64 ca, .bool en, .int .i64 cz, .int .i64 (max (q - 1) 0), .int .i64 l, .int .i64 f, .int .i64 fr, .int .i64 p, .int .i64 g] 72)).alloc (.cells #[.int .i64 0, .bool false, .int .i64 0, .int .i64 0, .int .i64 0, .int .i64 0, .int .i64 0, .int .i64 0, .int .i64 0] 72)).alloc (.cells #[.int .i64 0, .int .i64 0, .int .i64 0, .int .i64 0, .int .i64 0, .int .i64 0, .int .i64 0] 35)) 35 #[.int .i64 cz, .int .i64 q, .int .i64 l, .int .i64 f, .int .i64 fr, .int .i64 p, .int .i64 g]).at_eq (by simp : (((w.alloc (.cells #[.int .i64 ca, .bool en, .int .i64 cz, .int .i64 (max (q - 1) 0), .int .i64 l, .int .i64 f, .int .i64 fr, .int .i64 p, .int .i64 g] 72)).alloc (.cells #[.int .i64 0, .bool false, .int .i64 0, .int .i64 0, .int .i64 0, .int .i64 0, .int .i64 0, .int .i64 0, .int .i64 0] 72)).alloc (.cells #[.int .i64 0, .int .i64 0, .int .i64 0, .int .i64 0, .int .i64 0, .int .i64 0, .int .i64 0] 35)).heap.size = w.heap.size + 1 + 1 + 1))
      have HX2 := Lib.hid ((((Blk.new w 72 #[.int .i64 ca, .bool en, .int .i64 cz, .int .i64 (max (q - 1) 0), .int .i64 l, .int .i64 f, .int .i64 fr, .int .i64 p, .int .i64 g]).alloc (.cells #[.int .i64 ca, .bool en, .int .i64 cz, .int .i64 (max (q - 1) 0), .int .i64 l, .int .i64 f, .int .i64 fr, .int .i64 p, .int .i64 g] 72)).alloc (.cells #[.int .i64 0, .int .i64 0, .int .i64 0, .int .i64 0, .int .i64 0, .int .i64 0, .int .i64 0] 35)).alloc (.cells #[.int .i64 cz, .int .i64 q, .int .i64 l, .int .i64 f, .int .i64 fr, .int .i64 p, .int .i64 g] 35))
      have HY2 := Lib.hid ((Blk.new (((w.alloc (.cells #[.int .i64 ca, .bool en, .int .i64 cz, .int .i64 (max (q - 1) 0), .int .i64 l, .int .i64 f, .int .i64 fr, .int .i64 p, .int .i64 g] 72)).alloc (.cells #[.int .i64 ca, .bool en, .int .i64 cz, .int .i64 (max (q - 1) 0), .int .i64 l, .int .i64 f, .int .i64 fr, .int .i64 p, .int .i64 g] 72)).alloc (.cells #[.int .i64 0, .int .i64 0, .int .i64 0, .int .i64 0, .int .i64 0, .int .i64 0, .int .i64 0] 35)) 35 #[.int .i64 cz, .int .i64 q, .int .i64 l, .int .i64 f, .int .i64 fr, .int .i64 p, .int .i64 g]).at_eq (by simp : (((w.alloc (.cells #[.int .i64 ca, .bool en, .int .i64 cz, .int .i64 (max (q - 1) 0), .int .i64 l, .int .i64 f, .int .i64 fr, .int .i64 p, .int .i64 g] 72)).alloc (.cells #[.int .i64 ca, .bool en, .int .i64 cz, .int .i64 (max (q - 1) 0), .int .i64 l, .int .i64 f, .int .i64 fr, .int .i64 p, .int .i64 g] 72)).alloc (.cells #[.int .i64 0, .int .i64 0, .int .i64 0, .int .i64 0, .int .i64 0, .int .i64 0, .int .i64 0] 35)).heap.size = w.heap.size + 1 + 1 + 1))
      refine wp_region_tree (fun W => Blk W w.heap.size 72 #[.int .i64 ca, .bool en, .int .i64 cz, .int .i64 (max (q - 1) 0), .int .i64 l, .int .i64 f, .int .i64 fr, .int .i64 p, .int .i64 g] ∧ Blk W (w.heap.size + 1 + 1 + 1) 35 #[.int .i64 cz, .int .i64 q, .int .i64 l, .int .i64 f, .int .i64 fr, .int .i64 p, .int .i64 g]) 3 (.take 0 (.take 1 (.step 2 (.done))))
        (by kernel_rfl) (by kernel_rfl) (fun _ _ d _ _ h => by cases d <;> exact h) (by simp only [Pln.out, Array.getD_eq_getD_getElem?, List.getElem?_toArray, List.getElem?_cons_zero, List.getElem?_cons_succ, Option.getD_some]; rfl) (by simp only [List.map_cons, List.map_nil]; rfl) ⟨HX.out.drew', HY.out.drew'⟩ (fun PE hPE => ?_)
      refine tree_take (v := ?_) rfl (by rfl) ?_ ?_
      rotate_left
      · intro _ hSw; (try dsimp only at hSw); have e0 := hSw.1.cell 0; have e1 := hSw.1.cell 1; have e2 := hSw.1.cell 2; have e3 := hSw.1.cell 3; have e4 := hSw.1.cell 4; have e5 := hSw.1.cell 5; have e6 := hSw.1.cell 6; have e7 := hSw.1.cell 7; have e8 := hSw.1.cell 8; have d0 := hSw.2.cell 0; have d1 := hSw.2.cell 1; have d2 := hSw.2.cell 2; have d3 := hSw.2.cell 3; have d4 := hSw.2.cell 4; have d5 := hSw.2.cell 5; have d6 := hSw.2.cell 6; go_simp; (try with_reducible rfl)
      simp only [List.setIfInBounds_toArray, List.set_cons_zero, List.set_cons_succ]
      refine tree_take (v := ?_) rfl (by rfl) ?_ ?_
      rotate_left
      · intro _ hSw; (try dsimp only at hSw); have e0 := hSw.1.cell 0; have e1 := hSw.1.cell 1; have e2 := hSw.1.cell 2; have e3 := hSw.1.cell 3; have e4 := hSw.1.cell 4; have e5 := hSw.1.cell 5; have e6 := hSw.1.cell 6; have e7 := hSw.1.cell 7; have e8 := hSw.1.cell 8; have d0 := hSw.2.cell 0; have d1 := hSw.2.cell 1; have d2 := hSw.2.cell 2; have d3 := hSw.2.cell 3; have d4 := hSw.2.cell 4; have d5 := hSw.2.cell 5; have d6 := hSw.2.cell 6; go_simp; (try with_reducible rfl)
      simp only [List.setIfInBounds_toArray, List.set_cons_zero, List.set_cons_succ]
      refine tree_skip _ (w' := ?_) rfl (by rfl) ?_ ?_ ?_
      rotate_left 1
      · go_simp; (first | (with_reducible rfl) | (constructor <;> with_reducible rfl) | skip)
      · exact ⟨HX2.out.drew', HY2.out.drew'⟩
      (refine hPE _ _ ?_; simp only [List.drop_succ_cons, List.drop_zero]; clear hPE PE)
      go_wp2_with fail
      refine bodyPost_ret (by simp [results, Tryz.results47, go_sem]; try rfl) rfl ?_
      exact ⟨rfl, (((((Below.refl _ _).alloc (Nat.le_refl _) _).alloc (by simp) _).alloc (by simp; omega) _).alloc (by simp; omega) _).drew⟩
    · have hqb : (q == 0) = false := beq_eq_false_iff_ne.2 hq0
      clear hq0 h0
      go_enter Tryz.func47, Tryz.ntmps47
      go_wp2_with fail
      have HX := Lib.hid ((((Blk.new w 72 #[.int .i64 ca, .bool en, .int .i64 cz, .int .i64 (max (q - 1) 0), .int .i64 l, .int .i64 f, .int .i64 fr, .int .i64 p, .int .i64 g]).alloc (.cells #[.int .i64 0, .bool false, .int .i64 0, .int .i64 0, .int .i64 0, .int .i64 0, .int .i64 0, .int .i64 0, .int .i64 0] 72)).alloc (.cells #[.int .i64 0, .int .i64 0, .int .i64 0, .int .i64 0, .int .i64 0, .int .i64 0, .int .i64 0] 35)).alloc (.cells #[.int .i64 cz, .int .i64 q, .int .i64 l, .int .i64 f, .int .i64 fr, .int .i64 p, .int .i64 g] 35))
      have HY := Lib.hid ((Blk.new (((w.alloc (.cells #[.int .i64 ca, .bool en, .int .i64 cz, .int .i64 (max (q - 1) 0), .int .i64 l, .int .i64 f, .int .i64 fr, .int .i64 p, .int .i64 g] 72)).alloc (.cells #[.int .i64 0, .bool false, .int .i64 0, .int .i64 0, .int .i64 0, .int .i64 0, .int .i64 0, .int .i64 0, .int .i64 0] 72)).alloc (.cells #[.int .i64 0, .int .i64 0, .int .i64 0, .int .i64 0, .int .i64 0, .int .i64 0, .int .i64 0] 35)) 35 #[.int .i64 cz, .int .i64 q, .int .i64 l, .int .i64 f, .int .i64 fr, .int .i64 p, .int .i64 g]).at_eq (by simp : (((w.alloc (.cells #[.int .i64 ca, .bool en, .int .i64 cz, .int .i64 (max (q - 1) 0), .int .i64 l, .int .i64 f, .int .i64 fr, .int .i64 p, .int .i64 g] 72)).alloc (.cells #[.int .i64 0, .bool false, .int .i64 0, .int .i64 0, .int .i64 0, .int .i64 0, .int .i64 0, .int .i64 0, .int .i64 0] 72)).alloc (.cells #[.int .i64 0, .int .i64 0, .int .i64 0, .int .i64 0, .int .i64 0, .int .i64 0, .int .i64 0] 35)).heap.size = w.heap.size + 1 + 1 + 1))
      have HX2 := Lib.hid ((((Blk.new w 72 #[.int .i64 ca, .bool en, .int .i64 cz, .int .i64 (max (q - 1) 0), .int .i64 l, .int .i64 f, .int .i64 fr, .int .i64 p, .int .i64 g]).alloc (.cells #[.int .i64 ca, .bool en, .int .i64 cz, .int .i64 (max (q - 1) 0), .int .i64 l, .int .i64 f, .int .i64 fr, .int .i64 p, .int .i64 g] 72)).alloc (.cells #[.int .i64 0, .int .i64 0, .int .i64 0, .int .i64 0, .int .i64 0, .int .i64 0, .int .i64 0] 35)).alloc (.cells #[.int .i64 cz, .int .i64 q, .int .i64 l, .int .i64 f, .int .i64 fr, .int .i64 p, .int .i64 g] 35))
      have HY2 := Lib.hid ((Blk.new (((w.alloc (.cells #[.int .i64 ca, .bool en, .int .i64 cz, .int .i64 (max (q - 1) 0), .int .i64 l, .int .i64 f, .int .i64 fr, .int .i64 p, .int .i64 g] 72)).alloc (.cells #[.int .i64 ca, .bool en, .int .i64 cz, .int .i64 (max (q - 1) 0), .int .i64 l, .int .i64 f, .int .i64 fr, .int .i64 p, .int .i64 g] 72)).alloc (.cells #[.int .i64 0, .int .i64 0, .int .i64 0, .int .i64 0, .int .i64 0, .int .i64 0, .int .i64 0] 35)) 35 #[.int .i64 cz, .int .i64 q, .int .i64 l, .int .i64 f, .int .i64 fr, .int .i64 p, .int .i64 g]).at_eq (by simp : (((w.alloc (.cells #[.int .i64 ca, .bool en, .int .i64 cz, .int .i64 (max (q - 1) 0), .int .i64 l, .int .i64 f, .int .i64 fr, .int .i64 p, .int .i64 g] 72)).alloc (.cells #[.int .i64 ca, .bool en, .int .i64 cz, .int .i64 (max (q - 1) 0), .int .i64 l, .int .i64 f, .int .i64 fr, .int .i64 p, .int .i64 g] 72)).alloc (.cells #[.int .i64 0, .int .i64 0, .int .i64 0, .int .i64 0, .int .i64 0, .int .i64 0, .int .i64 0] 35)).heap.size = w.heap.size + 1 + 1 + 1))
      refine wp_region_tree (fun W => Blk W w.heap.size 72 #[.int .i64 ca, .bool en, .int .i64 cz, .int .i64 (max (q - 1) 0), .int .i64 l, .int .i64 f, .int .i64 fr, .int .i64 p, .int .i64 g] ∧ Blk W (w.heap.size + 1 + 1 + 1) 35 #[.int .i64 cz, .int .i64 q, .int .i64 l, .int .i64 f, .int .i64 fr, .int .i64 p, .int .i64 g]) 3 (.take 0 (.take 1 (.step 2 (.done))))
        (by kernel_rfl) (by kernel_rfl) (fun _ _ d _ _ h => by cases d <;> exact h) (by simp only [Pln.out, Array.getD_eq_getD_getElem?, List.getElem?_toArray, List.getElem?_cons_zero, List.getElem?_cons_succ, Option.getD_some]; rfl) (by simp only [List.map_cons, List.map_nil]; rfl) ⟨HX.out.drew', HY.out.drew'⟩ (fun PE hPE => ?_)
      refine tree_take (v := ?_) rfl (by rfl) ?_ ?_
      rotate_left
      · intro _ hSw; (try dsimp only at hSw); have e0 := hSw.1.cell 0; have e1 := hSw.1.cell 1; have e2 := hSw.1.cell 2; have e3 := hSw.1.cell 3; have e4 := hSw.1.cell 4; have e5 := hSw.1.cell 5; have e6 := hSw.1.cell 6; have e7 := hSw.1.cell 7; have e8 := hSw.1.cell 8; have d0 := hSw.2.cell 0; have d1 := hSw.2.cell 1; have d2 := hSw.2.cell 2; have d3 := hSw.2.cell 3; have d4 := hSw.2.cell 4; have d5 := hSw.2.cell 5; have d6 := hSw.2.cell 6; go_simp; (try with_reducible rfl)
      simp only [List.setIfInBounds_toArray, List.set_cons_zero, List.set_cons_succ]
      refine tree_take (v := ?_) rfl (by rfl) ?_ ?_
      rotate_left
      · intro _ hSw; (try dsimp only at hSw); have e0 := hSw.1.cell 0; have e1 := hSw.1.cell 1; have e2 := hSw.1.cell 2; have e3 := hSw.1.cell 3; have e4 := hSw.1.cell 4; have e5 := hSw.1.cell 5; have e6 := hSw.1.cell 6; have e7 := hSw.1.cell 7; have e8 := hSw.1.cell 8; have d0 := hSw.2.cell 0; have d1 := hSw.2.cell 1; have d2 := hSw.2.cell 2; have d3 := hSw.2.cell 3; have d4 := hSw.2.cell 4; have d5 := hSw.2.cell 5; have d6 := hSw.2.cell 6; go_simp; (try with_reducible rfl)
      simp only [List.setIfInBounds_toArray, List.set_cons_zero, List.set_cons_succ]
      refine tree_skip _ (w' := ?_) rfl (by rfl) ?_ ?_ ?_
      rotate_left 1
      · go_simp; (first | (with_reducible rfl) | (constructor <;> with_reducible rfl) | skip)
      · exact ⟨HX2.out.drew', HY2.out.drew'⟩
      (refine hPE _ _ ?_; simp only [List.drop_succ_cons, List.drop_zero]; clear hPE PE)
      go_wp2_with fail
      refine bodyPost_ret (by simp [results, Tryz.results47, go_sem]; try rfl) rfl ?_
      exact ⟨rfl, (((((Below.refl _ _).alloc (Nat.le_refl _) _).alloc (by simp) _).alloc (by simp; omega) _).alloc (by simp; omega) _).drew⟩
end Go.Proofs.YtklelheejopfmaaGreat
namespace Go.Proofs.YtklelheejopfmaaGreat
open Go Go.RowKit
attribute [local go_sem] Oper.semAt_some
/-- the variable of holders holds xs. -/
def HpAt (w : World) (bh base g n cap : Nat) (xs : List Hd) : Prop :=
  Blk w bh 114 #[.slice (some ⟨g, 0, none⟩) n cap] ∧ HRow w base (.slice (some ⟨g, 0, none⟩) n cap) xs ∧ xs.length = n
theorem HpAt.below {w w' : World} {bh base g n cap : Nat} {xs : List Hd} (h : HpAt w bh base g n cap xs) (hb : Below w.heap.size w w') : HpAt w' bh base g n cap xs := ⟨h.1.below hb h.1.lt, h.2.1.below hb, h.2.2⟩
theorem HpAt.ne {w : World} {bh base g n cap : Nat} {xs : List Hd} (h : HpAt w bh base g n cap xs) : bh ≠ g := fun e => by
  have := own_blk_ne h.2.1 h.1 (by decide)
  exact this (by rw [e]; rfl)
theorem HpAt.turn {w w' : World} {bh base g n cap : Nat} {xs ys : List Hd} (h : HpAt w bh base g n cap xs) (hr : HRow w' base (.slice (some ⟨g, 0, none⟩) n cap) ys) (hl : ys.length = n) (ht : Turn (fun b => b = g) w w') : HpAt w' bh base g n cap ys := ⟨ht.blk h.1 h.ne, hr, hl⟩
def ixI : Value → Int | .int _ a => a | _ => 0
abbrev hpI (bh : Nat) : Value := .iface 116 (.pointer (some ⟨bh, 0, none⟩))
set_option maxRecDepth 100000 in
theorem heap_up (w : World) (bh base g n cap : Nat) (xs : List Hd) (h : HpAt w bh base g n cap xs) (hl : n ≤ 1000) (j : Nat) (hj : j < n) (hu : UpInv n xs j) :
    Calls Tryz.prog 80 #[hpI bh, .int .i64 (j : Int)] w fun e w' => (∃ u, e = .returned u) ∧ ∃ ys, HpAt w' bh base g n cap ys ∧ ys.Perm xs ∧ HeapOk n ys ∧ Turn (fun b => b = g) w w' := by
  have H := Lib.hid h
  have HU := Lib.hid hu
  have HJ := Lib.hid hj
  have HT0 := Lib.hid (Turn.refl (fun b => b = g) w)
  clear h hu hj
  go_enter Tryz.func80, Tryz.ntmps80
  go_wp2_with fail
  go_loopw [1] (fun v1 wr => ∃ (i : Nat) (ys : List Hd), v1 = .int .i64 (i : Int) ∧ i < n ∧ Hid (HpAt wr bh base g n cap ys) ∧ Hid (ys.Perm xs) ∧ Hid (UpInv n ys i) ∧ Hid (Turn (fun b => b = g) w wr)) (fun v1 _ => (ixI v1).toNat)
  case atStart => exact ⟨j, xs, rfl, HJ.out, H, Lib.hid (List.Perm.refl _), HU, HT0⟩
  case round =>
    obtain ⟨i, ys, rfl, hi, HA, HP, HI, HT⟩ := hrel
    by_cases hi0 : i = 0
    · subst hi0
      clear hi
      go_wp2_with fail
      go_end0
      exact ⟨⟨_, rfl⟩, ys, HA.out, HP.out, up_end0 HI.out, HT.out⟩
    · obtain ⟨p, hp⟩ : ∃ p, par i = p := ⟨_, rfl⟩
      have hpi : p < i := by rw [← hp]; unfold par; omega
      have e1 : IntKind.i64.wrap ((i : Int) - 1) = (i : Int) - 1 := by rw [IntKind.wrap_i64]; omega
      have e1' : wrap64 ((i : Int) - 1) = (i : Int) - 1 := wrap64_id (by omega) (by omega)
      have e2 : ((i : Int) - 1).tdiv 2 = (p : Int) := by rw [Int.tdiv_eq_ediv_of_nonneg (by omega), ← hp]; unfold par; omega
      have e3 : wrap64 (p : Int) = (p : Int) := wrap64_id (by omega) (by omega)
      have e4 : ((p : Int) == (i : Int)) = false := beq_eq_false_iff_ne.2 (by omega)
      have HPI := Lib.hid hpi
      have HPP := Lib.hid hp
      have HII := Lib.hid hi
      have c0 := HA.out.1.cell 0
      have HLS : Hid (∀ (_ : True), _) := Lib.hid (fun (_ : True) => hold_Less g n cap base ys wr HA.out.2.1 HA.out.2.2 i p hi (by omega))
      obtain ⟨r, hr⟩ : ∃ r, decide (ltH (hx ys i) (hx ys p)) = r := ⟨_, rfl⟩
      rw [hr] at HLS
      have HRR := Lib.hid hr
      clear hp hpi hi hi0 hr
      cases r with
      | true =>
        have hm := met_Less bh _ wr c0
        go_wp2_with (first
          | (go_at_call 122; refine (HLS.out trivial).mono ?_; rintro e w1 ⟨rfl, hb1⟩; have HB1 := Lib.hid hb1; have c1 := (HA.out.1.below hb1 HA.out.1.lt).cell 0; have hm1 := met_Swap bh _ w1 c1; clear hb1)
          | (go_at_call 123; refine (hold_Swap g n cap base ys _ (HA.out.below HB1.out).2.1 HA.out.2.2 p i (Nat.lt_trans HPI.out HII.out) HII.out).mono ?_; rintro e w2 ⟨⟨u, rfl⟩, hr2, ht2⟩; have HA2 := Lib.hid ((HA.out.below HB1.out).turn hr2 ((swapH_len _ _ _).trans HA.out.2.2) ht2); have HT2 := Lib.hid ((HT.out.trans (Turn.of_below HB1.out)).trans ht2); clear hr2 ht2))
        go_roundw
        case rel =>
          refine ⟨p, swapH ys p i, rfl, Nat.lt_trans HPI.out HII.out, HA2, Lib.hid ?_, Lib.hid ?_, HT2⟩
          · exact (swapH_perm (by rw [HA.out.2.2]; exact Nat.lt_trans HPI.out HII.out) (by rw [HA.out.2.2]; exact HII.out)).trans HP.out
          · have h1 := HI.out
            have h2 := HPP.out
            have h3 := of_decide_eq_true HRR.out
            have h4 := HPI.out
            have h5 := HII.out
            have h6 := HA.out.2.2
            subst h2
            have h7 := up_step (xs := ys) (j := i) (by omega) (by omega) (by rw [h6]; exact h1) h3
            rw [h6] at h7
            exact h7
        case measure =>
          have := HPI.out
          show ((p : Int)).toNat < ((i : Int)).toNat
          omega
      | false =>
        have hm := met_Less bh _ wr c0
        go_wp2_with (go_at_call 122; refine (HLS.out trivial).mono ?_; rintro e w1 ⟨rfl, hb1⟩; have HB1 := Lib.hid hb1; clear hb1)
        go_end0
        refine ⟨⟨_, rfl⟩, ys, HA.out.below HB1.out, HP.out, ?_, HT.out.trans (Turn.of_below HB1.out)⟩
        have h1 := of_decide_eq_false HRR.out
        have h2 := HPP.out
        subst h2
        exact up_end HI.out h1
end Go.Proofs.YtklelheejopfmaaGreat
