/- Opn, Mod3 -/
import Derived.Test.YtklelheejopfmaaGreatK21
import Derived.Test.YtklelheejopfmaaGreatK12
namespace Go.Proofs.YtklelheejopfmaaGreat
open Go Go.RowKit Go.Maps
attribute [local go_sem] Oper.semAt_some
def newKn (room : Int) : Kn := ⟨0, false, 0, 0, 0, room, 0, 0, 0⟩
def openF (c : Cfg) (L : List Ent) : Int × Int × List Ent :=
  if (((liveK L).length : Int) + 1) * c.quota > c.frames then (0, 15, L)
  else if c.sess - (liveK L).length = 0 ∨ L.length = 2147483647 then (0, 15, L)
  else ((L.length : Int) + 1, 0, L ++ [(0, newKn c.room)])
theorem new_kn {c : Cfg} (hc : CfgOk c) {B : Int} (hB : 0 ≤ B) : KnOk c B (newKn c.room) := by
  have := hc.2.2.2.2.2.2.1
  have := hc.2.2.2.2.1
  refine ⟨Int.le_refl 0, Int.le_refl 0, Int.le_refl 0, hB, rfl, ?_, ?_, Int.le_refl 0, Int.le_refl 0, ?_⟩
  · show c.room = c.room - 0 + 0 / 8; omega
  · show 0 ≤ c.room; omega
  · show 0 ≤ c.quota; omega
theorem live_add (L : List Ent) (k : Kn) : (liveK (L ++ [(0, k)])).length = (liveK L).length + 1 := by
  unfold liveK
  suffices ∀ s, (numK gL s (L ++ [(0, k)])).length = (numK gL s L).length + 1 from this 0
  induction L with
  | nil => intro s; rfl
  | cons x L ih => intro s; rw [List.cons_append, numK, numK, List.length_append, List.length_append, ih (s + 1)]; omega
theorem put_L (L : List Ent) (k : Kn) : (numD gL L).put (.int .i64 ((L.length : Int) + 1)) (.held k.val) = numD gL (L ++ [(0, k)]) := numD_add L (0, k) k.val rfl
theorem mul_wrap {a b : Int} (h1 : 0 ≤ a) (h2 : a ≤ 100) (h3 : 0 ≤ b) (h4 : b ≤ 100) : wrap64 (a * b) = a * b := by
  have h5 : 0 ≤ a * b := Int.mul_nonneg h1 h3
  have h6 : a * b ≤ 100 * 100 := Int.mul_le_mul h2 h4 h3 (by decide)
  exact wrap64_id (by omega) (by omega)
set_option maxRecDepth 100000 in
set_option maxHeartbeats 1000000 in
theorem mod_New_ok (w : World) (c : Cfg) (hc : CfgOk c) : Calls Tryz.prog 4 #[.agg #[.int .i64 c.sess, .int .i64 c.frames, .int .i64 c.quota, .int .i64 c.room, .int .i64 c.slots]] w fun e w' =>
    ∃ bm bt tb lb, e = .returned (.tuple #[.pointer (some ⟨bm, 0, none⟩), .int .i64 0]) ∧ MAt w' bm bt tb lb c 0 [] ∧ Below w.heap.size w w' ∧ w.heap.size ≤ bt ∧ w.heap.size ≤ tb ∧ w.heap.size ≤ lb := by
  obtain ⟨se, fr, qu, ro, sl⟩ := c
  have HC := Lib.hid hc
  obtain ⟨h1, h2, h3, h4, h5, h6, h7, h8, h9, h10⟩ := hc
  dsimp only at h1 h2 h3 h4 h5 h6 h7 h8 h9 h10
  have d1 : decide (1 ≤ fr ∧ fr ≤ 64) = true := decide_eq_true ⟨h3, h4⟩
  have d2 : decide (2 ≤ qu ∧ qu ≤ fr) = true := decide_eq_true ⟨h5, h6⟩
  have d3 : decide (1024 ≤ ro ∧ ro ≤ 1048576) = true := decide_eq_true ⟨h7, h8⟩
  have d4 : decide (1 ≤ sl ∧ sl ≤ 1000) = true := decide_eq_true ⟨h9, h10⟩
  have D1 := Lib.hid (fun W => by have h := mod_within fr 1 64 W; rw [d1] at h; exact h)
  have D2 := Lib.hid (fun W => by have h := mod_within qu 2 fr W; rw [d2] at h; exact h)
  have D3 := Lib.hid (fun W => by have h := mod_within ro 1024 1048576 W; rw [d3] at h; exact h)
  have D4 := Lib.hid (fun W => by have h := mod_within sl 1 1000 W; rw [d4] at h; exact h)
  have CN := Lib.hid (fun W => table_New_ok W se h1 h2)
  have hmk : ∀ W : World, (Instr.makeMap 54 none).run Tryz.prog W = .ok (.map (some W.heap.size)) (W.alloc (.map #[] 0)) := fun W => run_makeMap _ W
  have HB0 := Lib.hid (show Below w.heap.size w (w.alloc (.cells #[.int .i64 se, .int .i64 fr, .int .i64 qu, .int .i64 ro, .int .i64 sl] 23)) from (Below.refl _ _).alloc (Nat.le_refl _) _)
  have HX := Lib.hid (Blk.new w 23 #[.int .i64 se, .int .i64 fr, .int .i64 qu, .int .i64 ro, .int .i64 sl])
  clear d1 d2 d3 d4 h1 h2 h3 h4 h5 h6 h7 h8 h9 h10
  go_enter Tryz.func4, Tryz.ntmps4
  go_wp2_with (first
    | (go_at_call 16; refine (D1.out _).mono ?_; rintro e w' ⟨rfl, rfl⟩; clear D1)
    | (go_at_call 16; refine (D2.out _).mono ?_; rintro e w' ⟨rfl, rfl⟩; clear D2)
    | (go_at_call 16; refine (D3.out _).mono ?_; rintro e w' ⟨rfl, rfl⟩; clear D3)
    | (go_at_call 16; refine (D4.out _).mono ?_; rintro e w' ⟨rfl, rfl⟩; clear D4)
    | (go_at_call 17; refine (CN.out _).mono ?_; rintro e w1 ⟨rfl, ht1, hb1⟩; have hx := HX.out.below hb1 HX.out.lt; have x0 := hx.cell 0; have x1 := hx.cell 1; have x2 := hx.cell 2; have x3 := hx.cell 3; have x4 := hx.cell 4; have HT1 := Lib.hid ht1; have HB1 := Lib.hid (HB0.out.trans (hb1.mono HB0.out.size)); clear ht1 hb1 hx))
  go_returns
  have ht := HT1.out
  simp only [World.size_alloc] at ht
  have hb : Below w1.heap.size w1 ((w1.alloc (.map #[] 0)).alloc (.cells #[.int .i64 se, .int .i64 fr, .int .i64 qu, .int .i64 ro, .int .i64 sl, .pointer (some ⟨w.heap.size + 1 + 1, 0, none⟩), .map (some w1.heap.size)] 56)) := ((Below.refl _ _).alloc (Nat.le_refl _) _).alloc (by simp) _
  have hl := ht.2.1.lt
  refine ⟨w1.heap.size + 1, w.heap.size + 1 + 1, w.heap.size + 1, w1.heap.size, rfl, ⟨(Blk.new _ _ _).at_eq (World.size_alloc _ _), ht.later hb, (World.ownsMap_made w1 Tryz.prog 3 heldR).alloc _, Nat.ne_of_lt hl, HC.out, (fun x hx => by cases hx), ?_, by decide⟩, HB1.out.trans (hb.mono HB1.out.size), by omega, by omega, HB1.out.size⟩
  have h1 := HC.out.1
  show ((0 : Nat) : Int) ≤ se
  dsimp only at h1
  omega
set_option maxRecDepth 100000 in
set_option maxHeartbeats 1000000 in
theorem mod_Open (w : World) (bm bt tb lb : Nat) (c : Cfg) (B : Int) (hB0 : 0 ≤ B) (L : List Ent) (h : MAt w bm bt tb lb c B L) :
    Calls Tryz.prog 25 #[.pointer (some ⟨bm, 0, none⟩)] w fun e w' => e = .returned (.tuple #[.int .i64 (openF c L).1, .int .i64 (openF c L).2.1]) ∧ MAt w' bm bt tb lb c B (openF c L).2.2 ∧ Only [bt, tb, lb] w w' := by
  have H := Lib.hid h
  obtain ⟨r, hr⟩ : ∃ r, openF c L = r := ⟨_, rfl⟩
  rw [hr]
  unfold openF at hr
  have hlen := size_K L
  obtain ⟨n, hn⟩ : ∃ n, (liveK L).length = n := ⟨_, rfl⟩
  rw [hn] at hr hlen
  have hnl : n ≤ 64 := by have := h.2.2.2.2.2.2.1; have := h.2.2.2.2.1.2.1; omega
  have hq1 := h.2.2.2.2.1.2.2.2.2.1
  have hq2 : c.quota ≤ 64 := by have := h.2.2.2.2.1.2.2.2.2.2.1; have := h.2.2.2.2.1.2.2.2.1; omega
  have hw1 : wrap64 ((n : Int) + 1) = (n : Int) + 1 := wrap64_id (by omega) (by omega)
  have hw2 : wrap64 (((n : Int) + 1) * c.quota) = ((n : Int) + 1) * c.quota := mul_wrap (by omega) (by omega) (by omega) (by omega)
  have hw1' : IntKind.i64.wrap ((n : Int) + 1) = (n : Int) + 1 := by rw [IntKind.wrap_i64]; omega
  have hw2' : IntKind.i64.wrap (((n : Int) + 1) * c.quota) = ((n : Int) + 1) * c.quota := by rw [IntKind.wrap_i64]; unfold wrap64 at hw2; exact hw2
  obtain ⟨pq, hpq⟩ : ∃ pq, ((n : Int) + 1) * c.quota = pq := ⟨_, rfl⟩
  rw [hpq] at hr hw2 hw2'
  have hbd : Below w.heap.size w w.drew := (Below.refl _ _).drew
  have HD := Lib.hid (h.later hbd)
  have HLN := Lib.hid hlen
  have HN := Lib.hid hn
  have hlw : ∀ W, MAt W bm bt tb lb c B L → (Builtin.len_ #[54] 3 #[.map (some lb)]).run Tryz.prog W = .ok (.int .i64 (n : Int)) W := fun W hW => by
    have h1 := hW.2.2.1.len (t := 54) Tryz.underlying54 3
    rw [HLN.out] at h1
    exact h1
  have HLW := Lib.hid hlw
  have HW := Lib.hid (And.intro hw1 hw2)
  by_cases hp : pq > c.frames
  · rw [if_pos hp] at hr
    subst hr
    have hp2 : c.frames < pq := hp
    clear h hlen hn hnl hq1 hq2 hbd hlw hp
    go_enter Tryz.func25, Tryz.ntmps25
    go_wp2_with (go_at_call 39; refine (mod_none _ _ _ _ _ _ _ _ H.out).mono ?_; rintro e w' ⟨rfl, rfl⟩)
    refine wp_region_plan2 (fun W => MAt W bm bt tb lb c B L) 17 [(0, true), (1, true), (2, true), (3, true), (4, true), (5, true), (6, true), (7, true), (8, true), (9, true), (10, true), (11, true), (12, true), (13, true), (14, true), (15, true), (16, true)] (by kernel_rfl) (by kernel_rfl) (fun _ _ d _ _ h => by cases d <;> exact h) (by decide) (by simp only [List.map_cons, List.map_nil, Array.getD_eq_getD_getElem?, List.getElem?_toArray, List.getElem?_cons_zero, List.getElem?_cons_succ, Option.getD_some]; rfl) (by simp only [List.map_cons, List.map_nil]; rfl) (HD.out) (fun PE hPE => ?_)
    refine plan_take (v := ?_) rfl (by rfl) ?_ ?_
    rotate_left
    · intro _ hSw; (try dsimp only at hSw); have m6 := hSw.1.cell 6; go_simp; (try with_reducible rfl)
    simp only [List.setIfInBounds_toArray, List.set_cons_zero, List.set_cons_succ]
    refine plan_take (v := ?_) rfl (by rfl) ?_ ?_
    rotate_left
    · intro _ hSw; (try dsimp only at hSw); have m6 := hSw.1.cell 6; go_simp; (try with_reducible rfl)
    simp only [List.setIfInBounds_toArray, List.set_cons_zero, List.set_cons_succ]
    refine plan_take (v := ?_) rfl (by rfl) ?_ ?_
    rotate_left
    · intro _ hSw; (try dsimp only at hSw); have m6 := hSw.1.cell 6; go_simp; (try with_reducible rfl)
    simp only [List.setIfInBounds_toArray, List.set_cons_zero, List.set_cons_succ]
    refine plan_take (v := ?_) rfl (by rfl) ?_ ?_
    rotate_left
    · intro _ hSw; (try dsimp only at hSw); have m6 := hSw.1.cell 6; go_simp; (try with_reducible rfl)
    simp only [List.setIfInBounds_toArray, List.set_cons_zero, List.set_cons_succ]
    refine plan_take (v := ?_) rfl (by rfl) ?_ ?_
    rotate_left
    · intro _ hSw; (try dsimp only at hSw); have hl := HLW.out _ hSw; go_simp; (try with_reducible rfl)
    simp only [List.setIfInBounds_toArray, List.set_cons_zero, List.set_cons_succ]
    refine plan_take (v := ?_) rfl (by rfl) ?_ ?_
    rotate_left
    · intro _ hSw; (try dsimp only at hSw); have m2 := hSw.1.cell 2; have m1 := hSw.1.cell 1; go_simp; (try with_reducible rfl)
    simp only [List.setIfInBounds_toArray, List.set_cons_zero, List.set_cons_succ]
    refine plan_take (v := ?_) rfl (by rfl) ?_ ?_
    rotate_left
    · intro _ hSw; (try dsimp only at hSw); have m2 := hSw.1.cell 2; have m1 := hSw.1.cell 1; go_simp; (try with_reducible rfl)
    simp only [List.setIfInBounds_toArray, List.set_cons_zero, List.set_cons_succ]
    refine plan_take (v := ?_) rfl (by rfl) ?_ ?_
    rotate_left
    · intro _ hSw; (try dsimp only at hSw); have m2 := hSw.1.cell 2; have m1 := hSw.1.cell 1; go_simp; (try with_reducible rfl)
    simp only [List.setIfInBounds_toArray, List.set_cons_zero, List.set_cons_succ]
    refine plan_take (v := ?_) rfl (by rfl) ?_ ?_
    rotate_left
    · intro _ hSw; (try dsimp only at hSw); have m2 := hSw.1.cell 2; have m1 := hSw.1.cell 1; go_simp; (try with_reducible rfl)
    simp only [List.setIfInBounds_toArray, List.set_cons_zero, List.set_cons_succ]
    refine plan_take (v := ?_) rfl (by rfl) ?_ ?_
    rotate_left
    · intro _ hSw; (try dsimp only at hSw); have m2 := hSw.1.cell 2; have m1 := hSw.1.cell 1; go_simp; (try with_reducible rfl)
    simp only [List.setIfInBounds_toArray, List.set_cons_zero, List.set_cons_succ]
    refine plan_take (v := ?_) rfl (by rfl) ?_ ?_
    rotate_left
    · intro _ hSw; (try dsimp only at hSw); have m2 := hSw.1.cell 2; have m1 := hSw.1.cell 1; go_simp; (try with_reducible rfl)
    simp only [List.setIfInBounds_toArray, List.set_cons_zero, List.set_cons_succ]
    refine plan_take (v := ?_) rfl (by rfl) ?_ ?_
    rotate_left
    · intro _ hSw; (try dsimp only at hSw); have m2 := hSw.1.cell 2; have m1 := hSw.1.cell 1; go_simp; (try with_reducible rfl)
    simp only [List.setIfInBounds_toArray, List.set_cons_zero, List.set_cons_succ]
    refine plan_take (v := ?_) rfl (by rfl) ?_ ?_
    rotate_left
    · intro _ hSw; (try dsimp only at hSw); have m2 := hSw.1.cell 2; have m1 := hSw.1.cell 1; go_simp; (try with_reducible rfl)
    simp only [List.setIfInBounds_toArray, List.set_cons_zero, List.set_cons_succ]
    refine plan_take (v := ?_) rfl (by rfl) ?_ ?_
    rotate_left
    · intro _ hSw; (try dsimp only at hSw); have m2 := hSw.1.cell 2; have m1 := hSw.1.cell 1; go_simp; (try with_reducible rfl)
    simp only [List.setIfInBounds_toArray, List.set_cons_zero, List.set_cons_succ]
    refine plan_take (v := ?_) rfl (by rfl) ?_ ?_
    rotate_left
    · intro _ hSw; (try dsimp only at hSw); have m2 := hSw.1.cell 2; have m1 := hSw.1.cell 1; go_simp; (try with_reducible rfl)
    simp only [List.setIfInBounds_toArray, List.set_cons_zero, List.set_cons_succ]
    refine plan_take (v := ?_) rfl (by rfl) ?_ ?_
    rotate_left
    · intro _ hSw; (try dsimp only at hSw); have m2 := hSw.1.cell 2; have m1 := hSw.1.cell 1; go_simp; (try with_reducible rfl)
    simp only [List.setIfInBounds_toArray, List.set_cons_zero, List.set_cons_succ]
    refine plan_take (v := ?_) rfl (by rfl) ?_ ?_
    rotate_left
    · intro _ hSw; (try dsimp only at hSw); have m2 := hSw.1.cell 2; have m1 := hSw.1.cell 1; go_simp; (try with_reducible rfl)
    simp only [List.setIfInBounds_toArray, List.set_cons_zero, List.set_cons_succ]
    (refine hPE _ _ ?_; simp only [List.drop_succ_cons, List.drop_zero]; clear hPE PE)
    go_wp2
    go_returns
    exact ⟨rfl, HD.out, Only.of_below (Below.refl _ _).drew⟩
  rw [if_neg hp] at hr
  have hp2 : ¬ c.frames < pq := hp
  by_cases hf : c.sess - (n : Int) = 0 ∨ L.length = 2147483647
  · rw [if_pos hf] at hr
    subst hr
    have CO := Lib.hid (fun W (hW : MAt W bm bt tb lb c B L) => table_Open_full W bt tb c.sess L hW.2.1 (by rw [HN.out]; exact hf))
    clear h hlen hn hnl hq1 hq2 hbd hlw hp hf
    go_enter Tryz.func25, Tryz.ntmps25
    go_wp2_with (go_at_call 39; refine (mod_none _ _ _ _ _ _ _ _ H.out).mono ?_; rintro e w' ⟨rfl, rfl⟩)
    refine wp_region_plan2 (fun W => MAt W bm bt tb lb c B L) 17 [(0, true), (1, true), (2, true), (3, true), (4, true), (5, true), (6, true), (7, true), (8, true), (9, true), (10, true), (11, true), (12, true), (13, true), (14, true), (15, true), (16, true)] (by kernel_rfl) (by kernel_rfl) (fun _ _ d _ _ h => by cases d <;> exact h) (by decide) (by simp only [List.map_cons, List.map_nil, Array.getD_eq_getD_getElem?, List.getElem?_toArray, List.getElem?_cons_zero, List.getElem?_cons_succ, Option.getD_some]; rfl) (by simp only [List.map_cons, List.map_nil]; rfl) (HD.out) (fun PE hPE => ?_)
    refine plan_take (v := ?_) rfl (by rfl) ?_ ?_
    rotate_left
    · intro _ hSw; (try dsimp only at hSw); have m6 := hSw.1.cell 6; go_simp; (try with_reducible rfl)
    simp only [List.setIfInBounds_toArray, List.set_cons_zero, List.set_cons_succ]
    refine plan_take (v := ?_) rfl (by rfl) ?_ ?_
    rotate_left
    · intro _ hSw; (try dsimp only at hSw); have m6 := hSw.1.cell 6; go_simp; (try with_reducible rfl)
    simp only [List.setIfInBounds_toArray, List.set_cons_zero, List.set_cons_succ]
    refine plan_take (v := ?_) rfl (by rfl) ?_ ?_
    rotate_left
    · intro _ hSw; (try dsimp only at hSw); have m6 := hSw.1.cell 6; go_simp; (try with_reducible rfl)
    simp only [List.setIfInBounds_toArray, List.set_cons_zero, List.set_cons_succ]
    refine plan_take (v := ?_) rfl (by rfl) ?_ ?_
    rotate_left
    · intro _ hSw; (try dsimp only at hSw); have m6 := hSw.1.cell 6; go_simp; (try with_reducible rfl)
    simp only [List.setIfInBounds_toArray, List.set_cons_zero, List.set_cons_succ]
    refine plan_take (v := ?_) rfl (by rfl) ?_ ?_
    rotate_left
    · intro _ hSw; (try dsimp only at hSw); have hl := HLW.out _ hSw; go_simp; (try with_reducible rfl)
    simp only [List.setIfInBounds_toArray, List.set_cons_zero, List.set_cons_succ]
    refine plan_take (v := ?_) rfl (by rfl) ?_ ?_
    rotate_left
    · intro _ hSw; (try dsimp only at hSw); have m2 := hSw.1.cell 2; have m1 := hSw.1.cell 1; go_simp; (try with_reducible rfl)
    simp only [List.setIfInBounds_toArray, List.set_cons_zero, List.set_cons_succ]
    refine plan_take (v := ?_) rfl (by rfl) ?_ ?_
    rotate_left
    · intro _ hSw; (try dsimp only at hSw); have m2 := hSw.1.cell 2; have m1 := hSw.1.cell 1; go_simp; (try with_reducible rfl)
    simp only [List.setIfInBounds_toArray, List.set_cons_zero, List.set_cons_succ]
    refine plan_take (v := ?_) rfl (by rfl) ?_ ?_
    rotate_left
    · intro _ hSw; (try dsimp only at hSw); have m2 := hSw.1.cell 2; have m1 := hSw.1.cell 1; go_simp; (try with_reducible rfl)
    simp only [List.setIfInBounds_toArray, List.set_cons_zero, List.set_cons_succ]
    refine plan_take (v := ?_) rfl (by rfl) ?_ ?_
    rotate_left
    · intro _ hSw; (try dsimp only at hSw); have m2 := hSw.1.cell 2; have m1 := hSw.1.cell 1; go_simp; (try with_reducible rfl)
    simp only [List.setIfInBounds_toArray, List.set_cons_zero, List.set_cons_succ]
    refine plan_take (v := ?_) rfl (by rfl) ?_ ?_
    rotate_left
    · intro _ hSw; (try dsimp only at hSw); have m2 := hSw.1.cell 2; have m1 := hSw.1.cell 1; go_simp; (try with_reducible rfl)
    simp only [List.setIfInBounds_toArray, List.set_cons_zero, List.set_cons_succ]
    refine plan_take (v := ?_) rfl (by rfl) ?_ ?_
    rotate_left
    · intro _ hSw; (try dsimp only at hSw); have m2 := hSw.1.cell 2; have m1 := hSw.1.cell 1; go_simp; (try with_reducible rfl)
    simp only [List.setIfInBounds_toArray, List.set_cons_zero, List.set_cons_succ]
    refine plan_take (v := ?_) rfl (by rfl) ?_ ?_
    rotate_left
    · intro _ hSw; (try dsimp only at hSw); have m2 := hSw.1.cell 2; have m1 := hSw.1.cell 1; go_simp; (try with_reducible rfl)
    simp only [List.setIfInBounds_toArray, List.set_cons_zero, List.set_cons_succ]
    refine plan_take (v := ?_) rfl (by rfl) ?_ ?_
    rotate_left
    · intro _ hSw; (try dsimp only at hSw); have m2 := hSw.1.cell 2; have m1 := hSw.1.cell 1; go_simp; (try with_reducible rfl)
    simp only [List.setIfInBounds_toArray, List.set_cons_zero, List.set_cons_succ]
    refine plan_take (v := ?_) rfl (by rfl) ?_ ?_
    rotate_left
    · intro _ hSw; (try dsimp only at hSw); have m2 := hSw.1.cell 2; have m1 := hSw.1.cell 1; go_simp; (try with_reducible rfl)
    simp only [List.setIfInBounds_toArray, List.set_cons_zero, List.set_cons_succ]
    refine plan_take (v := ?_) rfl (by rfl) ?_ ?_
    rotate_left
    · intro _ hSw; (try dsimp only at hSw); have m2 := hSw.1.cell 2; have m1 := hSw.1.cell 1; go_simp; (try with_reducible rfl)
    simp only [List.setIfInBounds_toArray, List.set_cons_zero, List.set_cons_succ]
    refine plan_take (v := ?_) rfl (by rfl) ?_ ?_
    rotate_left
    · intro _ hSw; (try dsimp only at hSw); have m2 := hSw.1.cell 2; have m1 := hSw.1.cell 1; go_simp; (try with_reducible rfl)
    simp only [List.setIfInBounds_toArray, List.set_cons_zero, List.set_cons_succ]
    refine plan_take (v := ?_) rfl (by rfl) ?_ ?_
    rotate_left
    · intro _ hSw; (try dsimp only at hSw); have m2 := hSw.1.cell 2; have m1 := hSw.1.cell 1; go_simp; (try with_reducible rfl)
    simp only [List.setIfInBounds_toArray, List.set_cons_zero, List.set_cons_succ]
    (refine hPE _ _ ?_; simp only [List.drop_succ_cons, List.drop_zero]; clear hPE PE)
    have m5 := HD.out.1.cell 5
    have HBD := Lib.hid (show Below w.heap.size w w.drew from (Below.refl _ _).drew)
    generalize w.drew = V at HD HBD m5 ⊢
    go_wp2_with (go_at_call 49; refine (CO.out _ HD.out).mono ?_; rintro e w1 ⟨rfl, hb1⟩; have HB1 := Lib.hid (HBD.out.trans (hb1.mono HBD.out.size)); clear hb1)
    go_returns
    exact ⟨rfl, H.out.later HB1.out, Only.of_below HB1.out⟩
  · rw [if_neg hf] at hr
    subst hr
    have hf1 : c.sess - (n : Int) ≠ 0 := fun e => hf (.inl e)
    have hf2 : L.length ≠ 2147483647 := fun e => hf (.inr e)
    have CO := Lib.hid (fun W (hW : MAt W bm bt tb lb c B L) => table_Open_ok W bt tb c.sess L hW.2.1 (by rw [HN.out]; exact hf1) hf2 (newKn c.room))
    have HLE := Lib.hid (show L.length ≤ 2147483647 from h.2.1.2.2.1)
    have HP := Lib.hid (put_L L (newKn c.room))
    have HF := Lib.hid (show (n : Int) + 1 ≤ c.sess by have := h.2.2.2.2.2.2.1; omega)
    clear h hlen hn hnl hq1 hq2 hbd hlw hp hf hf1 hf2
    go_enter Tryz.func25, Tryz.ntmps25
    go_wp2_with (go_at_call 39; refine (mod_none _ _ _ _ _ _ _ _ H.out).mono ?_; rintro e w' ⟨rfl, rfl⟩)
    refine wp_region_plan2 (fun W => MAt W bm bt tb lb c B L) 17 [(0, true), (1, true), (2, true), (3, true), (4, true), (5, true), (6, true), (7, true), (8, true), (9, true), (10, true), (11, true), (12, true), (13, true), (14, true), (15, true), (16, true)] (by kernel_rfl) (by kernel_rfl) (fun _ _ d _ _ h => by cases d <;> exact h) (by decide) (by simp only [List.map_cons, List.map_nil, Array.getD_eq_getD_getElem?, List.getElem?_toArray, List.getElem?_cons_zero, List.getElem?_cons_succ, Option.getD_some]; rfl) (by simp only [List.map_cons, List.map_nil]; rfl) (HD.out) (fun PE hPE => ?_)
    refine plan_take (v := ?_) rfl (by rfl) ?_ ?_
    rotate_left
    · intro _ hSw; (try dsimp only at hSw); have m6 := hSw.1.cell 6; go_simp; (try with_reducible rfl)
    simp only [List.setIfInBounds_toArray, List.set_cons_zero, List.set_cons_succ]
    refine plan_take (v := ?_) rfl (by rfl) ?_ ?_
    rotate_left
    · intro _ hSw; (try dsimp only at hSw); have m6 := hSw.1.cell 6; go_simp; (try with_reducible rfl)
    simp only [List.setIfInBounds_toArray, List.set_cons_zero, List.set_cons_succ]
    refine plan_take (v := ?_) rfl (by rfl) ?_ ?_
    rotate_left
    · intro _ hSw; (try dsimp only at hSw); have m6 := hSw.1.cell 6; go_simp; (try with_reducible rfl)
    simp only [List.setIfInBounds_toArray, List.set_cons_zero, List.set_cons_succ]
    refine plan_take (v := ?_) rfl (by rfl) ?_ ?_
    rotate_left
    · intro _ hSw; (try dsimp only at hSw); have m6 := hSw.1.cell 6; go_simp; (try with_reducible rfl)
    simp only [List.setIfInBounds_toArray, List.set_cons_zero, List.set_cons_succ]
    refine plan_take (v := ?_) rfl (by rfl) ?_ ?_
    rotate_left
    · intro _ hSw; (try dsimp only at hSw); have hl := HLW.out _ hSw; go_simp; (try with_reducible rfl)
    simp only [List.setIfInBounds_toArray, List.set_cons_zero, List.set_cons_succ]
    refine plan_take (v := ?_) rfl (by rfl) ?_ ?_
    rotate_left
    · intro _ hSw; (try dsimp only at hSw); have m2 := hSw.1.cell 2; have m1 := hSw.1.cell 1; go_simp; (try with_reducible rfl)
    simp only [List.setIfInBounds_toArray, List.set_cons_zero, List.set_cons_succ]
    refine plan_take (v := ?_) rfl (by rfl) ?_ ?_
    rotate_left
    · intro _ hSw; (try dsimp only at hSw); have m2 := hSw.1.cell 2; have m1 := hSw.1.cell 1; go_simp; (try with_reducible rfl)
    simp only [List.setIfInBounds_toArray, List.set_cons_zero, List.set_cons_succ]
    refine plan_take (v := ?_) rfl (by rfl) ?_ ?_
    rotate_left
    · intro _ hSw; (try dsimp only at hSw); have m2 := hSw.1.cell 2; have m1 := hSw.1.cell 1; go_simp; (try with_reducible rfl)
    simp only [List.setIfInBounds_toArray, List.set_cons_zero, List.set_cons_succ]
    refine plan_take (v := ?_) rfl (by rfl) ?_ ?_
    rotate_left
    · intro _ hSw; (try dsimp only at hSw); have m2 := hSw.1.cell 2; have m1 := hSw.1.cell 1; go_simp; (try with_reducible rfl)
    simp only [List.setIfInBounds_toArray, List.set_cons_zero, List.set_cons_succ]
    refine plan_take (v := ?_) rfl (by rfl) ?_ ?_
    rotate_left
    · intro _ hSw; (try dsimp only at hSw); have m2 := hSw.1.cell 2; have m1 := hSw.1.cell 1; go_simp; (try with_reducible rfl)
    simp only [List.setIfInBounds_toArray, List.set_cons_zero, List.set_cons_succ]
    refine plan_take (v := ?_) rfl (by rfl) ?_ ?_
    rotate_left
    · intro _ hSw; (try dsimp only at hSw); have m2 := hSw.1.cell 2; have m1 := hSw.1.cell 1; go_simp; (try with_reducible rfl)
    simp only [List.setIfInBounds_toArray, List.set_cons_zero, List.set_cons_succ]
    refine plan_take (v := ?_) rfl (by rfl) ?_ ?_
    rotate_left
    · intro _ hSw; (try dsimp only at hSw); have m2 := hSw.1.cell 2; have m1 := hSw.1.cell 1; go_simp; (try with_reducible rfl)
    simp only [List.setIfInBounds_toArray, List.set_cons_zero, List.set_cons_succ]
    refine plan_take (v := ?_) rfl (by rfl) ?_ ?_
    rotate_left
    · intro _ hSw; (try dsimp only at hSw); have m2 := hSw.1.cell 2; have m1 := hSw.1.cell 1; go_simp; (try with_reducible rfl)
    simp only [List.setIfInBounds_toArray, List.set_cons_zero, List.set_cons_succ]
    refine plan_take (v := ?_) rfl (by rfl) ?_ ?_
    rotate_left
    · intro _ hSw; (try dsimp only at hSw); have m2 := hSw.1.cell 2; have m1 := hSw.1.cell 1; go_simp; (try with_reducible rfl)
    simp only [List.setIfInBounds_toArray, List.set_cons_zero, List.set_cons_succ]
    refine plan_take (v := ?_) rfl (by rfl) ?_ ?_
    rotate_left
    · intro _ hSw; (try dsimp only at hSw); have m2 := hSw.1.cell 2; have m1 := hSw.1.cell 1; go_simp; (try with_reducible rfl)
    simp only [List.setIfInBounds_toArray, List.set_cons_zero, List.set_cons_succ]
    refine plan_take (v := ?_) rfl (by rfl) ?_ ?_
    rotate_left
    · intro _ hSw; (try dsimp only at hSw); have m2 := hSw.1.cell 2; have m1 := hSw.1.cell 1; go_simp; (try with_reducible rfl)
    simp only [List.setIfInBounds_toArray, List.set_cons_zero, List.set_cons_succ]
    refine plan_take (v := ?_) rfl (by rfl) ?_ ?_
    rotate_left
    · intro _ hSw; (try dsimp only at hSw); have m2 := hSw.1.cell 2; have m1 := hSw.1.cell 1; go_simp; (try with_reducible rfl)
    simp only [List.setIfInBounds_toArray, List.set_cons_zero, List.set_cons_succ]
    (refine hPE _ _ ?_; simp only [List.drop_succ_cons, List.drop_zero]; clear hPE PE)
    have m5 := HD.out.1.cell 5
    have HBD := Lib.hid (show Below w.heap.size w w.drew from (Below.refl _ _).drew)
    generalize w.drew = V at HD HBD m5 ⊢
    go_wp2_with (go_at_call 49; refine (CO.out _ HD.out).mono ?_; rintro e w1 ⟨rfl, ht1, ho1⟩; have HT1 := Lib.hid ht1; have HO1 := Lib.hid ho1; have HM1 := Lib.hid (ho1.blk HD.out.1 (by simp; exact ⟨fun e => blk_ne HD.out.1 HD.out.2.1.1 (by decide) e, (own_ne_blk HD.out.2.1.2.1 HD.out.1).symm⟩)); have HL1 := Lib.hid (ho1.own HD.out.2.2.1 (by simp; exact ⟨own_ne_blk HD.out.2.2.1 HD.out.2.1.1, HD.out.2.2.2.1.symm⟩)); clear ht1 ho1)
    refine wp_region_plan2 (fun W => Blk W bm 56 #[.int .i64 c.sess, .int .i64 c.frames, .int .i64 c.quota, .int .i64 c.room, .int .i64 c.slots, .pointer (some ⟨bt, 0, none⟩), .map (some lb)]) 12 [(0, true), (1, true), (2, true), (3, true), (4, true), (5, true), (6, true), (7, true), (8, true), (9, true), (10, true), (11, true)] (by kernel_rfl) (by kernel_rfl) (fun _ _ d _ _ h => by cases d <;> exact h) (by decide) (by simp only [List.map_cons, List.map_nil, Array.getD_eq_getD_getElem?, List.getElem?_toArray, List.getElem?_cons_zero, List.getElem?_cons_succ, Option.getD_some]; rfl) (by simp only [List.map_cons, List.map_nil]; rfl) (HM1.out.drew') (fun PE hPE => ?_)
    refine plan_take (v := ?_) rfl (by rfl) ?_ ?_
    rotate_left
    · intro _ hSw; (try dsimp only at hSw); have m6 := hSw.cell 6; have m3 := hSw.cell 3; go_simp; (try with_reducible rfl)
    simp only [List.setIfInBounds_toArray, List.set_cons_zero, List.set_cons_succ]
    refine plan_take (v := ?_) rfl (by rfl) ?_ ?_
    rotate_left
    · intro _ hSw; (try dsimp only at hSw); have m6 := hSw.cell 6; have m3 := hSw.cell 3; go_simp; (try with_reducible rfl)
    simp only [List.setIfInBounds_toArray, List.set_cons_zero, List.set_cons_succ]
    refine plan_take (v := ?_) rfl (by rfl) ?_ ?_
    rotate_left
    · intro _ hSw; (try dsimp only at hSw); have m6 := hSw.cell 6; have m3 := hSw.cell 3; go_simp; (try with_reducible rfl)
    simp only [List.setIfInBounds_toArray, List.set_cons_zero, List.set_cons_succ]
    refine plan_take (v := ?_) rfl (by rfl) ?_ ?_
    rotate_left
    · intro _ hSw; (try dsimp only at hSw); have m6 := hSw.cell 6; have m3 := hSw.cell 3; go_simp; (try with_reducible rfl)
    simp only [List.setIfInBounds_toArray, List.set_cons_zero, List.set_cons_succ]
    refine plan_take (v := ?_) rfl (by rfl) ?_ ?_
    rotate_left
    · intro _ hSw; (try dsimp only at hSw); have m6 := hSw.cell 6; have m3 := hSw.cell 3; go_simp; (try with_reducible rfl)
    simp only [List.setIfInBounds_toArray, List.set_cons_zero, List.set_cons_succ]
    refine plan_take (v := ?_) rfl (by rfl) ?_ ?_
    rotate_left
    · intro _ hSw; (try dsimp only at hSw); have m6 := hSw.cell 6; have m3 := hSw.cell 3; go_simp; (try with_reducible rfl)
    simp only [List.setIfInBounds_toArray, List.set_cons_zero, List.set_cons_succ]
    refine plan_take (v := ?_) rfl (by rfl) ?_ ?_
    rotate_left
    · intro _ hSw; (try dsimp only at hSw); have m6 := hSw.cell 6; have m3 := hSw.cell 3; go_simp; (try with_reducible rfl)
    simp only [List.setIfInBounds_toArray, List.set_cons_zero, List.set_cons_succ]
    refine plan_take (v := ?_) rfl (by rfl) ?_ ?_
    rotate_left
    · intro _ hSw; (try dsimp only at hSw); have m6 := hSw.cell 6; have m3 := hSw.cell 3; go_simp; (try with_reducible rfl)
    simp only [List.setIfInBounds_toArray, List.set_cons_zero, List.set_cons_succ]
    refine plan_take (v := ?_) rfl (by rfl) ?_ ?_
    rotate_left
    · intro _ hSw; (try dsimp only at hSw); have m6 := hSw.cell 6; have m3 := hSw.cell 3; go_simp; (try with_reducible rfl)
    simp only [List.setIfInBounds_toArray, List.set_cons_zero, List.set_cons_succ]
    refine plan_take (v := ?_) rfl (by rfl) ?_ ?_
    rotate_left
    · intro _ hSw; (try dsimp only at hSw); have m6 := hSw.cell 6; have m3 := hSw.cell 3; go_simp; (try with_reducible rfl)
    simp only [List.setIfInBounds_toArray, List.set_cons_zero, List.set_cons_succ]
    refine plan_take (v := ?_) rfl (by rfl) ?_ ?_
    rotate_left
    · intro _ hSw; (try dsimp only at hSw); have m6 := hSw.cell 6; have m3 := hSw.cell 3; go_simp; (try with_reducible rfl)
    simp only [List.setIfInBounds_toArray, List.set_cons_zero, List.set_cons_succ]
    refine plan_take (v := ?_) rfl (by rfl) ?_ ?_
    rotate_left
    · intro _ hSw; (try dsimp only at hSw); have m6 := hSw.cell 6; have m3 := hSw.cell 3; go_simp; (try with_reducible rfl)
    simp only [List.setIfInBounds_toArray, List.set_cons_zero, List.set_cons_succ]
    (refine hPE _ _ ?_; simp only [List.drop_succ_cons, List.drop_zero]; clear hPE PE)
    have HT2 := Lib.hid (HT1.out.later (show Below w1.heap.size w1 w1.drew from (Below.refl _ _).drew))
    have HM2 := Lib.hid HM1.out.drew'
    have HL2 := Lib.hid (own_later HL1.out (show Below w1.heap.size w1 w1.drew from (Below.refl _ _).drew))
    have HO2 := Lib.hid (((Only.of_below HBD.out (bs := [bt, tb])).trans HO1.out).trans (Only.of_below (show Below w1.heap.size w1 w1.drew from (Below.refl _ _).drew)))
    generalize w1.drew = V2 at HT2 HM2 HL2 HO2 ⊢
    go_wp2_with (at_mapUpdate; refine wpList_mapUpdate_in _ rfl _ _ _ 54 rfl 3 72 keyed_int Tryz.underlying54 heldR lb L.length _ rfl HL2.out (by have := H.out.2.1.2.2.1; unfold maxLen; omega) (.int .i64 ((L.length : Int) + 1)) (newKn c.room).val (.int .i64 ((L.length : Int) + 1)) rfl rfl (key_int ((L.length : Int) + 1) (by have := HLE.out; exact WalkArith.wf_i64 (by omega))) (.held (newKn c.room).val) [] rfl ?_; intro w5 hown5 hturn5; rw [HP.out] at hown5; have HO5 := Lib.hid hown5; have HU5 := Lib.hid hturn5; clear hown5 hturn5)
    go_returns
    have hlen : (L ++ [(0, newKn c.room)]).length = L.length + 1 := by simp
    have hO5 : Only [lb] V2 w5 := Only.turned (Only.of_below (Below.refl _ _)) HU5.out (by simp)
    refine ⟨rfl, ⟨blk_turned HM2.out HU5.out, HT2.out.only hO5 ?_ ?_, by rw [hlen]; exact HO5.out, H.out.2.2.2.1, H.out.2.2.2.2.1, ?_, ?_, H.out.2.2.2.2.2.2.2⟩, (HO2.out.mono (by simp)).trans (hO5.mono (by simp))⟩
    · simp; exact (own_ne_blk HL2.out HT2.out.1).symm
    · simpa using H.out.2.2.2.1
    · intro x hx
      rcases List.mem_append.1 hx with hx | hx
      · exact H.out.2.2.2.2.2.1 x hx
      · rw [List.mem_singleton.1 hx]; exact new_kn H.out.2.2.2.2.1 hB0
    · rw [live_add, HN.out]
      have := HF.out
      push_cast
      exact this
end Go.Proofs.YtklelheejopfmaaGreat
namespace Go.Proofs.YtklelheejopfmaaGreat
open Go Go.RowKit Go.Maps
attribute [local go_sem] Oper.semAt_some
/-- the blocks that See's long question reads -/
def SeeS (bn bp bm b0 b2 b3 bt lb : Nat) (c : Cfg) (ca : Int) (en : Bool) (cz q l f fr p g sc sq sl sf sfr sp sg lw fw : Int) (W : World) : Prop :=
  Blk W bn 35 #[.int .i64 sc, .int .i64 sq, .int .i64 sl, .int .i64 sf, .int .i64 sfr, .int .i64 sp, .int .i64 sg] ∧ Blk W bp 25 #[.pointer (some ⟨bm, 0, none⟩)] ∧ Blk W bm 56 #[.int .i64 c.sess, .int .i64 c.frames, .int .i64 c.quota, .int .i64 c.room, .int .i64 c.slots, .pointer (some ⟨bt, 0, none⟩), .map (some lb)] ∧ Blk W b0 72 #[.int .i64 ca, .bool en, .int .i64 sc, .int .i64 sq, .int .i64 sl, .int .i64 sf, .int .i64 sfr, .int .i64 sp, .int .i64 sg] ∧ Blk W b2 35 #[.int .i64 cz, .int .i64 q, .int .i64 l, .int .i64 f, .int .i64 fr, .int .i64 p, .int .i64 g] ∧ Blk W b3 72 #[.int .i64 ca, .bool en, .int .i64 sc, .int .i64 sq, .int .i64 lw, .int .i64 fw, .int .i64 sfr, .int .i64 sp, .int .i64 sg]
theorem SeeS.cells {bn bp bm b0 b2 b3 bt lb : Nat} {c : Cfg} {ca : Int} {en : Bool} {cz q l f fr p g sc sq sl sf sfr sp sg lw fw : Int} {W : World} (h : SeeS bn bp bm b0 b2 b3 bt lb c ca en cz q l f fr p g sc sq sl sf sfr sp sg lw fw W) :
    (W.cell? ⟨bn, 0, none⟩ = some (.int .i64 sc) ∧ W.cell? ⟨bn, 1, none⟩ = some (.int .i64 sq) ∧ W.cell? ⟨bn, 2, none⟩ = some (.int .i64 sl) ∧ W.cell? ⟨bn, 3, none⟩ = some (.int .i64 sf) ∧ W.cell? ⟨bn, 4, none⟩ = some (.int .i64 sfr) ∧ W.cell? ⟨bn, 5, none⟩ = some (.int .i64 sp) ∧ W.cell? ⟨bn, 6, none⟩ = some (.int .i64 sg)) ∧ W.cell? ⟨bp, 0, none⟩ = some (.pointer (some ⟨bm, 0, none⟩)) ∧ W.cell? ⟨bm, 2, none⟩ = some (.int .i64 c.quota) ∧ W.cell? ⟨bm, 4, none⟩ = some (.int .i64 c.slots) ∧ (W.cell? ⟨b0, 0, none⟩ = some (.int .i64 ca) ∧ W.cell? ⟨b0, 2, none⟩ = some (.int .i64 sc) ∧ W.cell? ⟨b0, 3, none⟩ = some (.int .i64 sq) ∧ W.cell? ⟨b0, 4, none⟩ = some (.int .i64 sl) ∧ W.cell? ⟨b0, 5, none⟩ = some (.int .i64 sf) ∧ W.cell? ⟨b0, 6, none⟩ = some (.int .i64 sfr) ∧ W.cell? ⟨b0, 7, none⟩ = some (.int .i64 sp) ∧ W.cell? ⟨b0, 8, none⟩ = some (.int .i64 sg)) ∧ (W.cell? ⟨b2, 0, none⟩ = some (.int .i64 cz) ∧ W.cell? ⟨b2, 1, none⟩ = some (.int .i64 q) ∧ W.cell? ⟨b2, 2, none⟩ = some (.int .i64 l) ∧ W.cell? ⟨b2, 3, none⟩ = some (.int .i64 f) ∧ W.cell? ⟨b2, 4, none⟩ = some (.int .i64 fr) ∧ W.cell? ⟨b2, 5, none⟩ = some (.int .i64 p) ∧ W.cell? ⟨b2, 6, none⟩ = some (.int .i64 g)) ∧ W.cell? ⟨b3, 2, none⟩ = some (.int .i64 sc) ∧ W.cell? ⟨b3, 3, none⟩ = some (.int .i64 sq) ∧ W.cell? ⟨b3, 4, none⟩ = some (.int .i64 lw) ∧ W.cell? ⟨b3, 5, none⟩ = some (.int .i64 fw) ∧ W.cell? ⟨b3, 6, none⟩ = some (.int .i64 sfr) ∧ W.cell? ⟨b3, 7, none⟩ = some (.int .i64 sp) ∧ W.cell? ⟨b3, 8, none⟩ = some (.int .i64 sg) :=
  ⟨⟨h.1.cell 0, h.1.cell 1, h.1.cell 2, h.1.cell 3, h.1.cell 4, h.1.cell 5, h.1.cell 6⟩, h.2.1.cell 0, h.2.2.1.cell 2, h.2.2.1.cell 4, ⟨h.2.2.2.1.cell 0, h.2.2.2.1.cell 2, h.2.2.2.1.cell 3, h.2.2.2.1.cell 4, h.2.2.2.1.cell 5, h.2.2.2.1.cell 6, h.2.2.2.1.cell 7, h.2.2.2.1.cell 8⟩,
    ⟨h.2.2.2.2.1.cell 0, h.2.2.2.2.1.cell 1, h.2.2.2.2.1.cell 2, h.2.2.2.2.1.cell 3, h.2.2.2.2.1.cell 4, h.2.2.2.2.1.cell 5, h.2.2.2.2.1.cell 6⟩, h.2.2.2.2.2.cell 2, h.2.2.2.2.2.cell 3, h.2.2.2.2.2.cell 4, h.2.2.2.2.2.cell 5, h.2.2.2.2.2.cell 6, h.2.2.2.2.2.cell 7, h.2.2.2.2.2.cell 8⟩
/-- is it taken? -/
def SeeOk (c : Cfg) (ca cz p g sc sq sl sf sfr sp sg : Int) : Prop :=
  (wrap64 (wrap64 (8 * ca) - sg) = sl ∧ wrap64 (wrap64 (c.room - ca) + wrap64 (sg.tdiv 8)) = sf) ∧ (g ≤ sg ∧ sg ≤ 8 * ca) ∧ (0 ≤ sq ∧ sq ≤ c.slots) ∧ (0 ≤ sfr ∧ sfr ≤ c.quota) ∧ ¬ sp < p ∧ ¬ (cz ≠ 0 ∧ sc ≠ cz)
instance (c : Cfg) (ca cz p g sc sq sl sf sfr sp sg : Int) : Decidable (SeeOk c ca cz p g sc sq sl sf sfr sp sg) := by unfold SeeOk; infer_instance
end Go.Proofs.YtklelheejopfmaaGreat
