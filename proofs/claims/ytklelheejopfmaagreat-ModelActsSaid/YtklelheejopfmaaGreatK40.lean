/- Act29 -/
import Derived.Test.YtklelheejopfmaaGreatK38
import Derived.Test.YtklelheejopfmaaGreatK39
namespace Go.Proofs.YtklelheejopfmaaGreat
open Go Go.RowKit Go.Maps
attribute [local go_sem] Oper.semAt_some
theorem MAt.rfq {T : TypeId → Prop} {base : Nat} {w w' : World} {bm bt tb lb : Nat} {c : Cfg} {B : Int} {L : List Ent} (h : MAt w bm bt tb lb c B L) (hr : RFq T base w w') (h1 : ¬ T 56) (h2 : ¬ T 80) : MAt w' bm bt tb lb c B L :=
  ⟨hr.blk h.1 h1, ⟨hr.blk h.2.1.1 h2, hr.map h.2.1.2.1, h.2.1.2.2⟩, hr.map h.2.2.1, h.2.2.2⟩
theorem RAt.rfq {T : TypeId → Prop} {b0 : Nat} {w w' : World} {rm rt base : Nat} {c : Cfg} {L : List Ent} (h : RAt w rm rt base c L) (hr : RFq T b0 w w') (hT : ∀ t, T29 t → ¬ T t) : RAt w' rm rt base c L := by
  obtain ⟨v, h1, h2, ⟨vt, t1, t2, t3⟩, h4⟩ := h
  exact ⟨v, hr.blk h1 (hT _ (.inl rfl)), own_same h2 (fun g cs _ hb => hr.blk hb (hT _ (.inr (.inr (.inl rfl))))), ⟨vt, hr.blk t1 (hT _ (.inr (.inl rfl))), own_same t2 (fun g cs _ hb => hr.blk hb (hT _ (.inr (.inr (.inr rfl))))), t3⟩, h4⟩
/-- a row of ints is turned. -/
theorem rfq_int {w w' : World} {b0 : Nat} {v : Value} {xs : List Int} (h : IRow w b0 v xs) (ht : Turn (fun b => v.ownBlock = some b) w w') : RFq (fun t => t = 3) b0 w w' := by
  refine Turn.mono ht fun k hk => ?_
  rcases h.2 with ⟨rfl, _⟩ | ⟨g, cap, cur, rfl, hb, hh, _⟩
  · cases hk
  · cases hk
    exact ⟨hb, cur, 3, (0, 0), hh, rfl⟩
def QOk (L : List Ent) : Prop := ∀ x ∈ L, x.2.queued ≤ 1000
/-- the model and the reference hold the same. -/
structure AS (bm bt tb lb rm rt base : Nat) (c : Cfg) (B : Int) (L : List Ent) (w : World) : Prop where
  m : MAt w bm bt tb lb c B L
  r : RAt w rm rt base c L
  q : QOk L
  bt : base ≤ bt
  tb : base ≤ tb
  lb : base ≤ lb
def ActPost (bm bt tb lb rm rt base : Nat) (c : Cfg) (B : Int) (w : World) (e : Ending) (w' : World) : Prop :=
  e = .returned (.bool true) ∧ (∃ L', AS bm bt tb lb rm rt base c (B + 1048576) L' w') ∧ Below base w w'
section
variable {bm bt tb lb rm rt base : Nat} {c : Cfg} {B : Int} {L : List Ent} {w : World}
theorem AS.later {w' : World} (h : AS bm bt tb lb rm rt base c B L w) (hb : Below w.heap.size w w') : AS bm bt tb lb rm rt base c B L w' := ⟨h.m.later hb, h.r.later hb, h.q, h.bt, h.tb, h.lb⟩
theorem AS.rfq {T : TypeId → Prop} {b0 : Nat} {w' : World} (h : AS bm bt tb lb rm rt base c B L w) (hr : RFq T b0 w w') (h1 : ¬ T 56) (h2 : ¬ T 80) (hT : ∀ t, T29 t → ¬ T t) : AS bm bt tb lb rm rt base c B L w' := ⟨h.m.rfq hr h1 h2, h.r.rfq hr hT, h.q, h.bt, h.tb, h.lb⟩
theorem AS.over {w' : World} {b0 : Nat} {v : Value} {xs : List Int} (h : AS bm bt tb lb rm rt base c B L w) (hi : IRow w b0 v xs) (ht : Turn (fun b => v.ownBlock = some b) w w') (hb : base ≤ b0) : AS bm bt tb lb rm rt base c B L w' ∧ Below base w w' := by
  have hr := rfq_int hi ht
  refine ⟨h.rfq hr (by decide) (by decide) (fun t h1 h2 => by subst h2; revert h1; decide), hr.below hb (by have := h.r.base_le; omega)⟩
theorem AS.base_le (h : AS bm bt tb lb rm rt base c B L w) : base ≤ w.heap.size := h.r.base_le
theorem AS.kn (h : AS bm bt tb lb rm rt base c B L w) : ∀ x ∈ L, KnOk c B x.2 := h.m.2.2.2.2.2.1
theorem AS.cfg (h : AS bm bt tb lb rm rt base c B L w) : CfgOk c := h.m.2.2.2.2.1
theorem AS.live (h : AS bm bt tb lb rm rt base c B L w) : ((liveK L).length : Int) ≤ c.sess := h.m.2.2.2.2.2.2.1
theorem AS.big (h : AS bm bt tb lb rm rt base c B L w) : B ≤ 2 ^ 45 := h.m.2.2.2.2.2.2.2
/-- behind the model's step, ahead of the reference's. -/
theorem AS.mid (h : AS bm bt tb lb rm rt base c B L w) {w1 : World} (ho : Only [bt, tb, lb] w w1) : RAt w1 rm rt base c L ∧ Below base w w1 :=
  ⟨h.r.only h.m ho, ho.below h.base_le (by intro k hk; simp at hk; rcases hk with rfl | rfl | rfl; exact h.bt; exact h.tb; exact h.lb)⟩
/-- behind both. -/
theorem AS.both (h : AS bm bt tb lb rm rt base c B L w) {w1 w2 : World} {B2 : Int} {L2 : List Ent} (ho : Only [bt, tb, lb] w w1) (hm : MAt w1 bm bt tb lb c B2 L2) (hr : RAt w2 rm rt base c L2) (hf : RFq T29 base w1 w2) (hq : QOk L2) (hB : B2 ≤ B + 1048576) (hB2 : B + 1048576 ≤ 2 ^ 45) :
    (∃ L', AS bm bt tb lb rm rt base c (B + 1048576) L' w2) ∧ Below base w w2 := by
  have h1 := (h.mid ho).2
  exact ⟨⟨L2, ⟨(hm.rfr hf).mono hB hB2, hr, hq, h.bt, h.tb, h.lb⟩⟩, h1.trans (hf.below (Nat.le_refl _) (by have := h1.size; have := h.base_le; omega))⟩
end
theorem q_set {L : List Ent} {i : Nat} {x : Ent} (h : QOk L) (hx : x.2.queued ≤ 1000) : QOk (L.set i x) := fun y hy => by
  rcases List.mem_or_eq_of_mem_set hy with h1 | rfl
  · exact h y h1
  · exact hx
theorem q_at {L : List Ent} {id : Int} {x : Ent} (h : QOk L) (ha : atL L id = some x) : x.2.queued ≤ 1000 := by
  unfold atL at ha
  split at ha
  · exact h x (List.mem_of_getElem? ha)
  · cases ha
theorem q_onL {L : List Ent} {id : Int} {ff : Kn → Int × Int × Kn} (h : QOk L) (hf : ∀ k : Kn, k.queued ≤ 1000 → (ff k).2.1 = 0 → (ff k).2.2.queued ≤ 1000) : QOk (onL L id ff).2.2 := by
  unfold onL
  cases ha : atL L id with
  | none => exact h
  | some x =>
    dsimp only
    split
    · exact h
    · split
      · exact h
      · rename_i h2
        exact q_set h (hf x.2 (q_at h ha) (by simpa using h2))
theorem q_feed (n : Int) (k : Kn) (hk : k.queued ≤ 1000) (_ : (feedF k n).2.1 = 0) : (feedF k n).2.2.queued ≤ 1000 := by
  unfold feedF
  split
  · exact hk
  · split
    · exact hk
    · exact hk
theorem q_end (k : Kn) (hk : k.queued ≤ 1000) (_ : (endF2 k).2.1 = 0) : (endF2 k).2.2.queued ≤ 1000 := by
  unfold endF2 endK
  split
  · exact hk
  · exact hk
theorem q_see {c : Cfg} (hc : CfgOk c) (s : Kn) (k : Kn) (_ : k.queued ≤ 1000) (h : (seeF c s k).2.1 = 0) : (seeF c s k).2.2.queued ≤ 1000 := by
  have h0 : SeeOk c k.came k.cause k.pics k.gone s.cause s.queued s.left s.free s.frames s.pics s.gone := by
    by_cases hs : SeeOk c k.came k.cause k.pics k.gone s.cause s.queued s.left s.free s.frames s.pics s.gone
    · exact hs
    · unfold seeF at h; dsimp only at h; rw [if_neg hs] at h; cases h
  have h1 := h0.2.2.1.2
  have h2 := hc.2.2.2.2.2.2.2.2.2
  show s.queued ≤ 1000
  omega
theorem q_drain {L : List Ent} {id : Int} (h : QOk L) : QOk (drainL L id).2 := by
  unfold drainL
  cases ha : atL L id with
  | none => exact h
  | some x =>
    have hx := q_at h ha
    have hd : (drainK x.2).2.1.queued ≤ 1000 := by
      unfold drainK
      split
      · exact hx
      · show max (x.2.queued - 1) 0 ≤ 1000; omega
    dsimp only
    split
    · exact h
    · split
      · exact h
      · split
        · exact q_set h hd
        · exact q_set h hd
theorem q_out {L : List Ent} {id cs : Int} (h : QOk L) : QOk (outL L id cs).2 := by
  unfold outL
  cases ha : atL L id with
  | none => exact h
  | some x =>
    dsimp only
    split
    · exact h
    · exact q_set h (show x.2.queued ≤ 1000 from q_at h ha)
theorem q_open {c : Cfg} {L : List Ent} (h : QOk L) : QOk (openF c L).2.2 := by
  unfold openF
  split
  · exact h
  · split
    · exact h
    · intro y hy
      rcases List.mem_append.1 hy with h1 | h1
      · exact h y h1
      · rw [List.mem_singleton.1 h1]; exact (by decide : (0 : Int) ≤ 1000)
theorem q_evict : ∀ {ids : List Int} {L : List Ent}, QOk L → QOk (evictL L ids) := by
  intro ids
  induction ids with
  | nil => intro L h; exact h
  | cons y ids ih =>
    intro L h
    refine ih (L := evict1 L y) ?_
    unfold evict1
    cases ha : atL L y with
    | none => exact h
    | some z => exact q_set h (show z.2.queued ≤ 1000 from q_at h ha)
theorem q_press {c : Cfg} {L : List Ent} {V : List Hd} {want : Int} (h : QOk L) : QOk (pressF c L V want).2.2 := by
  unfold pressF
  split
  · exact q_evict h
  · exact h
set_option maxRecDepth 100000 in
set_option maxHeartbeats 4000000 in
theorem act_0 (w : World) (bm bt tb lb rm rt base : Nat) (c : Cfg) (B : Int) (L : List Ent) (h : AS bm bt tb lb rm rt base c B L w) (hB0 : 0 ≤ B) (hB : B + 1048576 ≤ 2 ^ 45) (id n a b cc d e0 f g : Int) (hw : (Lit.int .i64 id).wf = true) :
    Calls Tryz.prog 7 #[.pointer (some ⟨bm, 0, none⟩), .pointer (some ⟨rm, 0, none⟩), .agg #[.int .i64 0, .int .i64 id, .int .i64 n, .int .i64 a, .int .i64 b, .int .i64 cc, .int .i64 d, .int .i64 e0, .int .i64 f, .int .i64 g]] w (ActPost bm bt tb lb rm rt base c B w) := by
  have hb0 : Below w.heap.size w (w.alloc (.cells #[.int .i64 0, .int .i64 id, .int .i64 n, .int .i64 a, .int .i64 b, .int .i64 cc, .int .i64 d, .int .i64 e0, .int .i64 f, .int .i64 g] 37)) := (Below.refl _ _).alloc (Nat.le_refl _) _
  have H := Lib.hid (h.later hb0)
  have HB0 := Lib.hid hb0
  have HBL := Lib.hid h.base_le
  have B5 := Lib.hid (Blk.new w 37 #[.int .i64 0, .int .i64 id, .int .i64 n, .int .i64 a, .int .i64 b, .int .i64 cc, .int .i64 d, .int .i64 e0, .int .i64 f, .int .i64 g])
  have HBB := Lib.hid (And.intro hB0 hB)
  clear h hb0 hB0 hB hw
  go_enter Tryz.func7, Tryz.ntmps7
  go_wp2_with (first
    | (go_at_call 25; refine (mod_Open _ bm bt tb lb c B HBB.out.1 L H.out.m).mono ?_; rintro e w1 ⟨rfl, hm1, ho1⟩; have HO1 := Lib.hid (ho1.mono (by simp) : Only [bt, tb, lb] _ _); have HM1 := Lib.hid hm1; have HR1 := Lib.hid (H.out.mid HO1.out).1; have hz := HO1.out.blk B5.out (by have x1 := blk_ne B5.out H.out.m.2.1.1 (by decide); have x2 := own_ne_blk H.out.m.2.1.2.1 B5.out; have x3 := own_ne_blk H.out.m.2.2.1 B5.out; simp [x1, x2.symm, x3.symm]); have z1 := hz.cell 1; have z2 := hz.cell 2; clear hm1 ho1 hz)
    | (go_at_call 26; refine (ref29_Open _ rm rt base c L HR1.out H.out.cfg H.out.live).mono ?_; rintro e w2 ⟨rfl, hr2, hf2⟩; have HFIN := Lib.hid (H.out.both HO1.out HM1.out hr2 hf2 (q_open H.out.q) (by have := HBB.out; omega) HBB.out.2); clear hr2 hf2))
  go_returns
  obtain ⟨f1, f2⟩ := HFIN.out
  exact ⟨rfl, f1, ((HB0.out.mono HBL.out).trans f2)⟩
set_option maxRecDepth 100000 in
set_option maxHeartbeats 4000000 in
theorem act_1 (w : World) (bm bt tb lb rm rt base : Nat) (c : Cfg) (B : Int) (L : List Ent) (h : AS bm bt tb lb rm rt base c B L w) (hB0 : 0 ≤ B) (hB : B + 1048576 ≤ 2 ^ 45) (id n a b cc d e0 f g : Int) (hw : (Lit.int .i64 id).wf = true) :
    Calls Tryz.prog 7 #[.pointer (some ⟨bm, 0, none⟩), .pointer (some ⟨rm, 0, none⟩), .agg #[.int .i64 1, .int .i64 id, .int .i64 n, .int .i64 a, .int .i64 b, .int .i64 cc, .int .i64 d, .int .i64 e0, .int .i64 f, .int .i64 g]] w (ActPost bm bt tb lb rm rt base c B w) := by
  have hb0 : Below w.heap.size w (w.alloc (.cells #[.int .i64 1, .int .i64 id, .int .i64 n, .int .i64 a, .int .i64 b, .int .i64 cc, .int .i64 d, .int .i64 e0, .int .i64 f, .int .i64 g] 37)) := (Below.refl _ _).alloc (Nat.le_refl _) _
  have H := Lib.hid (h.later hb0)
  have HB0 := Lib.hid hb0
  have HBL := Lib.hid h.base_le
  have B5 := Lib.hid (Blk.new w 37 #[.int .i64 1, .int .i64 id, .int .i64 n, .int .i64 a, .int .i64 b, .int .i64 cc, .int .i64 d, .int .i64 e0, .int .i64 f, .int .i64 g])
  have HBB := Lib.hid (And.intro hB0 hB)
  clear h hb0 hB0 hB
  go_enter Tryz.func7, Tryz.ntmps7
  go_wp2_with (first
    | (go_at_call 27; refine (mod_Feed _ bm bt tb lb c B L H.out.m HBB.out.2 id n hw).mono ?_; rintro e w1 ⟨rfl, hm1, ho1⟩; have HO1 := Lib.hid (ho1.mono (by simp) : Only [bt, tb, lb] _ _); have HM1 := Lib.hid hm1; have HR1 := Lib.hid (H.out.mid HO1.out).1; have hz := HO1.out.blk B5.out (by have x1 := blk_ne B5.out H.out.m.2.1.1 (by decide); have x2 := own_ne_blk H.out.m.2.1.2.1 B5.out; have x3 := own_ne_blk H.out.m.2.2.1 B5.out; simp [x1, x2.symm, x3.symm]); have z1 := hz.cell 1; have z2 := hz.cell 2; clear hm1 ho1 hz)
    | (go_at_call 28; refine (ref29_Feed _ rm rt base c L HR1.out H.out.kn H.out.cfg HBB.out.2 id n hw).mono ?_; rintro e w2 ⟨rfl, hr2, hf2⟩; have HFIN := Lib.hid (H.out.both HO1.out HM1.out hr2 hf2 (q_onL H.out.q (q_feed n)) (by have := HBB.out; omega) HBB.out.2); clear hr2 hf2))
  go_returns
  obtain ⟨f1, f2⟩ := HFIN.out
  exact ⟨rfl, f1, ((HB0.out.mono HBL.out).trans f2)⟩
set_option maxRecDepth 100000 in
set_option maxHeartbeats 4000000 in
theorem act_2 (w : World) (bm bt tb lb rm rt base : Nat) (c : Cfg) (B : Int) (L : List Ent) (h : AS bm bt tb lb rm rt base c B L w) (hB0 : 0 ≤ B) (hB : B + 1048576 ≤ 2 ^ 45) (id n a b cc d e0 f g : Int) (hw : (Lit.int .i64 id).wf = true) :
    Calls Tryz.prog 7 #[.pointer (some ⟨bm, 0, none⟩), .pointer (some ⟨rm, 0, none⟩), .agg #[.int .i64 2, .int .i64 id, .int .i64 n, .int .i64 a, .int .i64 b, .int .i64 cc, .int .i64 d, .int .i64 e0, .int .i64 f, .int .i64 g]] w (ActPost bm bt tb lb rm rt base c B w) := by
  have hb0 : Below w.heap.size w (w.alloc (.cells #[.int .i64 2, .int .i64 id, .int .i64 n, .int .i64 a, .int .i64 b, .int .i64 cc, .int .i64 d, .int .i64 e0, .int .i64 f, .int .i64 g] 37)) := (Below.refl _ _).alloc (Nat.le_refl _) _
  have H := Lib.hid (h.later hb0)
  have HB0 := Lib.hid hb0
  have HBL := Lib.hid h.base_le
  have B5 := Lib.hid (Blk.new w 37 #[.int .i64 2, .int .i64 id, .int .i64 n, .int .i64 a, .int .i64 b, .int .i64 cc, .int .i64 d, .int .i64 e0, .int .i64 f, .int .i64 g])
  have HBB := Lib.hid (And.intro hB0 hB)
  have HD := Lib.hid (H.out.later (Below.refl _ _).drew)
  have BD := Lib.hid (show Blk (w.alloc (.cells #[.int .i64 2, .int .i64 id, .int .i64 n, .int .i64 a, .int .i64 b, .int .i64 cc, .int .i64 d, .int .i64 e0, .int .i64 f, .int .i64 g] 37)).drew w.heap.size 37 #[.int .i64 2, .int .i64 id, .int .i64 n, .int .i64 a, .int .i64 b, .int .i64 cc, .int .i64 d, .int .i64 e0, .int .i64 f, .int .i64 g] from B5.out.drew')
  clear h hb0 hB0 hB
  go_enter Tryz.func7, Tryz.ntmps7
  go_wp2_with fail
  refine wp_region_plan2 (fun W => Blk W w.heap.size 37 #[.int .i64 2, .int .i64 id, .int .i64 n, .int .i64 a, .int .i64 b, .int .i64 cc, .int .i64 d, .int .i64 e0, .int .i64 f, .int .i64 g]) 7 [(0, true), (1, true), (2, true), (4, true), (5, true), (6, true), (3, false)] (by kernel_rfl) (by kernel_rfl) (fun _ _ d _ _ h => by cases d <;> exact h) (by decide) (by simp only [List.map_cons, List.map_nil, Array.getD_eq_getD_getElem?, List.getElem?_toArray, List.getElem?_cons_zero, List.getElem?_cons_succ, Option.getD_some]; rfl) (by simp only [List.map_cons, List.map_nil]; rfl) (BD.out) (fun PE hPE => ?_)
  refine plan_take (v := ?_) rfl (by rfl) ?_ ?_
  rotate_left
  · intro _ hSw; (try dsimp only at hSw); go_simp; (try with_reducible rfl)
  simp only [List.setIfInBounds_toArray, List.set_cons_zero, List.set_cons_succ]
  refine plan_take (v := ?_) rfl (by rfl) ?_ ?_
  rotate_left
  · intro _ hSw; (try dsimp only at hSw); go_simp; (try with_reducible rfl)
  simp only [List.setIfInBounds_toArray, List.set_cons_zero, List.set_cons_succ]
  refine plan_take (v := ?_) rfl (by rfl) ?_ ?_
  rotate_left
  · intro _ hSw; (try dsimp only at hSw); have x1 := hSw.cell 1; go_simp; (try with_reducible rfl)
  simp only [List.setIfInBounds_toArray, List.set_cons_zero, List.set_cons_succ]
  refine plan_take (v := ?_) rfl (by rfl) ?_ ?_
  rotate_left
  · intro _ hSw; (try dsimp only at hSw); go_simp; (try with_reducible rfl)
  simp only [List.setIfInBounds_toArray, List.set_cons_zero, List.set_cons_succ]
  refine plan_take (v := ?_) rfl (by rfl) ?_ ?_
  rotate_left
  · intro _ hSw; (try dsimp only at hSw); go_simp; (try with_reducible rfl)
  simp only [List.setIfInBounds_toArray, List.set_cons_zero, List.set_cons_succ]
  refine plan_take (v := ?_) rfl (by rfl) ?_ ?_
  rotate_left
  · intro _ hSw; (try dsimp only at hSw); have x1 := hSw.cell 1; go_simp; (try with_reducible rfl)
  simp only [List.setIfInBounds_toArray, List.set_cons_zero, List.set_cons_succ]
  refine plan_call rfl (by rfl) (by first | (go_simp; done) | (go_simp; rfl)) (mod_End _ bm bt tb lb c B L HD.out.m id hw) ?_
  rintro e w1 ⟨rfl, hm1, ho1⟩
  have ho1' : Only [bt, tb, lb] _ _ := ho1.mono (by simp)
  have HO1 := Lib.hid ho1'
  have HM1 := Lib.hid hm1
  have HR1 := Lib.hid (HD.out.mid HO1.out).1
  refine ⟨_, rfl, HO1.out.blk BD.out (by have x1 := blk_ne BD.out HD.out.m.2.1.1 (by decide); have x2 := own_ne_blk HD.out.m.2.1.2.1 BD.out; have x3 := own_ne_blk HD.out.m.2.2.1 BD.out; simp [x1, x2.symm, x3.symm]), ?_⟩
  clear hm1 ho1 ho1'
  simp only [List.setIfInBounds_toArray, List.set_cons_zero, List.set_cons_succ]
  (refine hPE _ _ ?_; simp only [List.drop_succ_cons, List.drop_zero]; clear hPE PE)
  go_wp2_with (go_at_call 30; refine (ref29_End _ rm rt base c L HR1.out id hw).mono ?_; rintro e w2 ⟨rfl, hr2, hf2⟩; have HFIN := Lib.hid (HD.out.both HO1.out HM1.out hr2 hf2 (q_onL HD.out.q q_end) (by have := HBB.out; omega) HBB.out.2); clear hr2 hf2)
  go_returns
  obtain ⟨f1, f2⟩ := HFIN.out
  have f3 : Below w.heap.size w (w.alloc (.cells #[.int .i64 2, .int .i64 id, .int .i64 n, .int .i64 a, .int .i64 b, .int .i64 cc, .int .i64 d, .int .i64 e0, .int .i64 f, .int .i64 g] 37)).drew := HB0.out.drew
  exact ⟨rfl, f1, ((f3.mono HBL.out).trans f2)⟩
set_option maxRecDepth 100000 in
set_option maxHeartbeats 4000000 in
theorem act_4 (w : World) (bm bt tb lb rm rt base : Nat) (c : Cfg) (B : Int) (L : List Ent) (h : AS bm bt tb lb rm rt base c B L w) (hB0 : 0 ≤ B) (hB : B + 1048576 ≤ 2 ^ 45) (id n a b cc d e0 f g : Int) (hw : (Lit.int .i64 id).wf = true) :
    Calls Tryz.prog 7 #[.pointer (some ⟨bm, 0, none⟩), .pointer (some ⟨rm, 0, none⟩), .agg #[.int .i64 4, .int .i64 id, .int .i64 n, .int .i64 a, .int .i64 b, .int .i64 cc, .int .i64 d, .int .i64 e0, .int .i64 f, .int .i64 g]] w (ActPost bm bt tb lb rm rt base c B w) := by
  have hb0 : Below w.heap.size w (w.alloc (.cells #[.int .i64 4, .int .i64 id, .int .i64 n, .int .i64 a, .int .i64 b, .int .i64 cc, .int .i64 d, .int .i64 e0, .int .i64 f, .int .i64 g] 37)) := (Below.refl _ _).alloc (Nat.le_refl _) _
  have H := Lib.hid (h.later hb0)
  have HB0 := Lib.hid hb0
  have HBL := Lib.hid h.base_le
  have B5 := Lib.hid (Blk.new w 37 #[.int .i64 4, .int .i64 id, .int .i64 n, .int .i64 a, .int .i64 b, .int .i64 cc, .int .i64 d, .int .i64 e0, .int .i64 f, .int .i64 g])
  have HBB := Lib.hid (And.intro hB0 hB)
  have HD := Lib.hid (H.out.later (Below.refl _ _).drew)
  have BD := Lib.hid (show Blk (w.alloc (.cells #[.int .i64 4, .int .i64 id, .int .i64 n, .int .i64 a, .int .i64 b, .int .i64 cc, .int .i64 d, .int .i64 e0, .int .i64 f, .int .i64 g] 37)).drew w.heap.size 37 #[.int .i64 4, .int .i64 id, .int .i64 n, .int .i64 a, .int .i64 b, .int .i64 cc, .int .i64 d, .int .i64 e0, .int .i64 f, .int .i64 g] from B5.out.drew')
  clear h hb0 hB0 hB
  go_enter Tryz.func7, Tryz.ntmps7
  go_wp2_with fail
  refine wp_region_plan2 (fun W => Blk W w.heap.size 37 #[.int .i64 4, .int .i64 id, .int .i64 n, .int .i64 a, .int .i64 b, .int .i64 cc, .int .i64 d, .int .i64 e0, .int .i64 f, .int .i64 g]) 7 [(0, true), (1, true), (2, true), (4, true), (5, true), (6, true), (3, false)] (by kernel_rfl) (by kernel_rfl) (fun _ _ d _ _ h => by cases d <;> exact h) (by decide) (by simp only [List.map_cons, List.map_nil, Array.getD_eq_getD_getElem?, List.getElem?_toArray, List.getElem?_cons_zero, List.getElem?_cons_succ, Option.getD_some]; rfl) (by simp only [List.map_cons, List.map_nil]; rfl) (BD.out) (fun PE hPE => ?_)
  refine plan_take (v := ?_) rfl (by rfl) ?_ ?_
  rotate_left
  · intro _ hSw; (try dsimp only at hSw); go_simp; (try with_reducible rfl)
  simp only [List.setIfInBounds_toArray, List.set_cons_zero, List.set_cons_succ]
  refine plan_take (v := ?_) rfl (by rfl) ?_ ?_
  rotate_left
  · intro _ hSw; (try dsimp only at hSw); go_simp; (try with_reducible rfl)
  simp only [List.setIfInBounds_toArray, List.set_cons_zero, List.set_cons_succ]
  refine plan_take (v := ?_) rfl (by rfl) ?_ ?_
  rotate_left
  · intro _ hSw; (try dsimp only at hSw); have x1 := hSw.cell 1; go_simp; (try with_reducible rfl)
  simp only [List.setIfInBounds_toArray, List.set_cons_zero, List.set_cons_succ]
  refine plan_take (v := ?_) rfl (by rfl) ?_ ?_
  rotate_left
  · intro _ hSw; (try dsimp only at hSw); go_simp; (try with_reducible rfl)
  simp only [List.setIfInBounds_toArray, List.set_cons_zero, List.set_cons_succ]
  refine plan_take (v := ?_) rfl (by rfl) ?_ ?_
  rotate_left
  · intro _ hSw; (try dsimp only at hSw); go_simp; (try with_reducible rfl)
  simp only [List.setIfInBounds_toArray, List.set_cons_zero, List.set_cons_succ]
  refine plan_take (v := ?_) rfl (by rfl) ?_ ?_
  rotate_left
  · intro _ hSw; (try dsimp only at hSw); have x1 := hSw.cell 1; go_simp; (try with_reducible rfl)
  simp only [List.setIfInBounds_toArray, List.set_cons_zero, List.set_cons_succ]
  refine plan_call rfl (by rfl) (by first | (go_simp; done) | (go_simp; rfl)) (mod_Drain _ bm bt tb lb c B L HD.out.m (fun x hx => by have := HD.out.q x hx; omega) id hw) ?_
  rintro e w1 ⟨rfl, hm1, ho1⟩
  have ho1' : Only [bt, tb, lb] _ _ := ho1.mono (by simp)
  have HO1 := Lib.hid ho1'
  have HM1 := Lib.hid hm1
  have HR1 := Lib.hid (HD.out.mid HO1.out).1
  refine ⟨_, rfl, HO1.out.blk BD.out (by have x1 := blk_ne BD.out HD.out.m.2.1.1 (by decide); have x2 := own_ne_blk HD.out.m.2.1.2.1 BD.out; have x3 := own_ne_blk HD.out.m.2.2.1 BD.out; simp [x1, x2.symm, x3.symm]), ?_⟩
  clear hm1 ho1 ho1'
  simp only [List.setIfInBounds_toArray, List.set_cons_zero, List.set_cons_succ]
  (refine hPE _ _ ?_; simp only [List.drop_succ_cons, List.drop_zero]; clear hPE PE)
  go_wp2_with (go_at_call 32; refine (ref29_Drain _ rm rt base c L HR1.out HD.out.kn (fun x hx => by have := HD.out.q x hx; omega) id hw).mono ?_; rintro e w2 ⟨rfl, hr2, hf2⟩; have HFIN := Lib.hid (HD.out.both HO1.out HM1.out hr2 hf2 (q_drain HD.out.q) (by have := HBB.out; omega) HBB.out.2); clear hr2 hf2)
  go_returns
  obtain ⟨f1, f2⟩ := HFIN.out
  have f3 : Below w.heap.size w (w.alloc (.cells #[.int .i64 4, .int .i64 id, .int .i64 n, .int .i64 a, .int .i64 b, .int .i64 cc, .int .i64 d, .int .i64 e0, .int .i64 f, .int .i64 g] 37)).drew := HB0.out.drew
  exact ⟨rfl, f1, ((f3.mono HBL.out).trans f2)⟩
set_option maxRecDepth 100000 in
set_option maxHeartbeats 4000000 in
theorem act_5 (w : World) (bm bt tb lb rm rt base : Nat) (c : Cfg) (B : Int) (L : List Ent) (h : AS bm bt tb lb rm rt base c B L w) (hB0 : 0 ≤ B) (hB : B + 1048576 ≤ 2 ^ 45) (id n a b cc d e0 f g : Int) (hw : (Lit.int .i64 id).wf = true) :
    Calls Tryz.prog 7 #[.pointer (some ⟨bm, 0, none⟩), .pointer (some ⟨rm, 0, none⟩), .agg #[.int .i64 5, .int .i64 id, .int .i64 n, .int .i64 a, .int .i64 b, .int .i64 cc, .int .i64 d, .int .i64 e0, .int .i64 f, .int .i64 g]] w (ActPost bm bt tb lb rm rt base c B w) := by
  have hb0 : Below w.heap.size w (w.alloc (.cells #[.int .i64 5, .int .i64 id, .int .i64 n, .int .i64 a, .int .i64 b, .int .i64 cc, .int .i64 d, .int .i64 e0, .int .i64 f, .int .i64 g] 37)) := (Below.refl _ _).alloc (Nat.le_refl _) _
  have H := Lib.hid (h.later hb0)
  have HB0 := Lib.hid hb0
  have HBL := Lib.hid h.base_le
  have B5 := Lib.hid (Blk.new w 37 #[.int .i64 5, .int .i64 id, .int .i64 n, .int .i64 a, .int .i64 b, .int .i64 cc, .int .i64 d, .int .i64 e0, .int .i64 f, .int .i64 g])
  have HBB := Lib.hid (And.intro hB0 hB)
  have HD := Lib.hid (H.out.later (Below.refl _ _).drew)
  have BD := Lib.hid (show Blk (w.alloc (.cells #[.int .i64 5, .int .i64 id, .int .i64 n, .int .i64 a, .int .i64 b, .int .i64 cc, .int .i64 d, .int .i64 e0, .int .i64 f, .int .i64 g] 37)).drew w.heap.size 37 #[.int .i64 5, .int .i64 id, .int .i64 n, .int .i64 a, .int .i64 b, .int .i64 cc, .int .i64 d, .int .i64 e0, .int .i64 f, .int .i64 g] from B5.out.drew')
  clear h hb0 hB0 hB
  go_enter Tryz.func7, Tryz.ntmps7
  go_wp2_with fail
  refine wp_region_plan2 (fun W => Blk W w.heap.size 37 #[.int .i64 5, .int .i64 id, .int .i64 n, .int .i64 a, .int .i64 b, .int .i64 cc, .int .i64 d, .int .i64 e0, .int .i64 f, .int .i64 g]) 7 [(0, true), (1, true), (2, true), (4, true), (5, true), (6, true), (3, false)] (by kernel_rfl) (by kernel_rfl) (fun _ _ d _ _ h => by cases d <;> exact h) (by decide) (by simp only [List.map_cons, List.map_nil, Array.getD_eq_getD_getElem?, List.getElem?_toArray, List.getElem?_cons_zero, List.getElem?_cons_succ, Option.getD_some]; rfl) (by simp only [List.map_cons, List.map_nil]; rfl) (BD.out) (fun PE hPE => ?_)
  refine plan_take (v := ?_) rfl (by rfl) ?_ ?_
  rotate_left
  · intro _ hSw; (try dsimp only at hSw); go_simp; (try with_reducible rfl)
  simp only [List.setIfInBounds_toArray, List.set_cons_zero, List.set_cons_succ]
  refine plan_take (v := ?_) rfl (by rfl) ?_ ?_
  rotate_left
  · intro _ hSw; (try dsimp only at hSw); go_simp; (try with_reducible rfl)
  simp only [List.setIfInBounds_toArray, List.set_cons_zero, List.set_cons_succ]
  refine plan_take (v := ?_) rfl (by rfl) ?_ ?_
  rotate_left
  · intro _ hSw; (try dsimp only at hSw); have x1 := hSw.cell 1; go_simp; (try with_reducible rfl)
  simp only [List.setIfInBounds_toArray, List.set_cons_zero, List.set_cons_succ]
  refine plan_take (v := ?_) rfl (by rfl) ?_ ?_
  rotate_left
  · intro _ hSw; (try dsimp only at hSw); go_simp; (try with_reducible rfl)
  simp only [List.setIfInBounds_toArray, List.set_cons_zero, List.set_cons_succ]
  refine plan_take (v := ?_) rfl (by rfl) ?_ ?_
  rotate_left
  · intro _ hSw; (try dsimp only at hSw); go_simp; (try with_reducible rfl)
  simp only [List.setIfInBounds_toArray, List.set_cons_zero, List.set_cons_succ]
  refine plan_take (v := ?_) rfl (by rfl) ?_ ?_
  rotate_left
  · intro _ hSw; (try dsimp only at hSw); have x1 := hSw.cell 1; go_simp; (try with_reducible rfl)
  simp only [List.setIfInBounds_toArray, List.set_cons_zero, List.set_cons_succ]
  refine plan_call rfl (by rfl) (by first | (go_simp; done) | (go_simp; rfl)) (mod_Close _ bm bt tb lb c B L HD.out.m id hw) ?_
  rintro e w1 ⟨rfl, hm1, ho1⟩
  have ho1' : Only [bt, tb, lb] _ _ := ho1.mono (by simp)
  have HO1 := Lib.hid ho1'
  have HM1 := Lib.hid hm1
  have HR1 := Lib.hid (HD.out.mid HO1.out).1
  refine ⟨_, rfl, HO1.out.blk BD.out (by have x1 := blk_ne BD.out HD.out.m.2.1.1 (by decide); have x2 := own_ne_blk HD.out.m.2.1.2.1 BD.out; have x3 := own_ne_blk HD.out.m.2.2.1 BD.out; simp [x1, x2.symm, x3.symm]), ?_⟩
  clear hm1 ho1 ho1'
  simp only [List.setIfInBounds_toArray, List.set_cons_zero, List.set_cons_succ]
  (refine hPE _ _ ?_; simp only [List.drop_succ_cons, List.drop_zero]; clear hPE PE)
  go_wp2_with (go_at_call 34; refine (ref29_Close _ rm rt base c L HR1.out id hw).mono ?_; rintro e w2 ⟨rfl, hr2, hf2⟩; have HFIN := Lib.hid (HD.out.both HO1.out HM1.out hr2 hf2 (q_out HD.out.q) (by have := HBB.out; omega) HBB.out.2); clear hr2 hf2)
  go_returns
  obtain ⟨f1, f2⟩ := HFIN.out
  have f3 : Below w.heap.size w (w.alloc (.cells #[.int .i64 5, .int .i64 id, .int .i64 n, .int .i64 a, .int .i64 b, .int .i64 cc, .int .i64 d, .int .i64 e0, .int .i64 f, .int .i64 g] 37)).drew := HB0.out.drew
  exact ⟨rfl, f1, ((f3.mono HBL.out).trans f2)⟩
set_option maxRecDepth 100000 in
set_option maxHeartbeats 4000000 in
theorem act_6 (w : World) (bm bt tb lb rm rt base : Nat) (c : Cfg) (B : Int) (L : List Ent) (h : AS bm bt tb lb rm rt base c B L w) (hB0 : 0 ≤ B) (hB : B + 1048576 ≤ 2 ^ 45) (id n a b cc d e0 f g : Int) (hw : (Lit.int .i64 id).wf = true) :
    Calls Tryz.prog 7 #[.pointer (some ⟨bm, 0, none⟩), .pointer (some ⟨rm, 0, none⟩), .agg #[.int .i64 6, .int .i64 id, .int .i64 n, .int .i64 a, .int .i64 b, .int .i64 cc, .int .i64 d, .int .i64 e0, .int .i64 f, .int .i64 g]] w (ActPost bm bt tb lb rm rt base c B w) := by
  have hb0 : Below w.heap.size w (w.alloc (.cells #[.int .i64 6, .int .i64 id, .int .i64 n, .int .i64 a, .int .i64 b, .int .i64 cc, .int .i64 d, .int .i64 e0, .int .i64 f, .int .i64 g] 37)) := (Below.refl _ _).alloc (Nat.le_refl _) _
  have H := Lib.hid (h.later hb0)
  have HB0 := Lib.hid hb0
  have HBL := Lib.hid h.base_le
  have B5 := Lib.hid (Blk.new w 37 #[.int .i64 6, .int .i64 id, .int .i64 n, .int .i64 a, .int .i64 b, .int .i64 cc, .int .i64 d, .int .i64 e0, .int .i64 f, .int .i64 g])
  have HBB := Lib.hid (And.intro hB0 hB)
  have HD := Lib.hid (H.out.later (Below.refl _ _).drew)
  have BD := Lib.hid (show Blk (w.alloc (.cells #[.int .i64 6, .int .i64 id, .int .i64 n, .int .i64 a, .int .i64 b, .int .i64 cc, .int .i64 d, .int .i64 e0, .int .i64 f, .int .i64 g] 37)).drew w.heap.size 37 #[.int .i64 6, .int .i64 id, .int .i64 n, .int .i64 a, .int .i64 b, .int .i64 cc, .int .i64 d, .int .i64 e0, .int .i64 f, .int .i64 g] from B5.out.drew')
  clear h hb0 hB0 hB
  go_enter Tryz.func7, Tryz.ntmps7
  go_wp2_with fail
  refine wp_region_plan2 (fun W => Blk W w.heap.size 37 #[.int .i64 6, .int .i64 id, .int .i64 n, .int .i64 a, .int .i64 b, .int .i64 cc, .int .i64 d, .int .i64 e0, .int .i64 f, .int .i64 g]) 7 [(0, true), (1, true), (2, true), (4, true), (5, true), (6, true), (3, false)] (by kernel_rfl) (by kernel_rfl) (fun _ _ d _ _ h => by cases d <;> exact h) (by decide) (by simp only [List.map_cons, List.map_nil, Array.getD_eq_getD_getElem?, List.getElem?_toArray, List.getElem?_cons_zero, List.getElem?_cons_succ, Option.getD_some]; rfl) (by simp only [List.map_cons, List.map_nil]; rfl) (BD.out) (fun PE hPE => ?_)
  refine plan_take (v := ?_) rfl (by rfl) ?_ ?_
  rotate_left
  · intro _ hSw; (try dsimp only at hSw); go_simp; (try with_reducible rfl)
  simp only [List.setIfInBounds_toArray, List.set_cons_zero, List.set_cons_succ]
  refine plan_take (v := ?_) rfl (by rfl) ?_ ?_
  rotate_left
  · intro _ hSw; (try dsimp only at hSw); go_simp; (try with_reducible rfl)
  simp only [List.setIfInBounds_toArray, List.set_cons_zero, List.set_cons_succ]
  refine plan_take (v := ?_) rfl (by rfl) ?_ ?_
  rotate_left
  · intro _ hSw; (try dsimp only at hSw); have x1 := hSw.cell 1; go_simp; (try with_reducible rfl)
  simp only [List.setIfInBounds_toArray, List.set_cons_zero, List.set_cons_succ]
  refine plan_take (v := ?_) rfl (by rfl) ?_ ?_
  rotate_left
  · intro _ hSw; (try dsimp only at hSw); go_simp; (try with_reducible rfl)
  simp only [List.setIfInBounds_toArray, List.set_cons_zero, List.set_cons_succ]
  refine plan_take (v := ?_) rfl (by rfl) ?_ ?_
  rotate_left
  · intro _ hSw; (try dsimp only at hSw); go_simp; (try with_reducible rfl)
  simp only [List.setIfInBounds_toArray, List.set_cons_zero, List.set_cons_succ]
  refine plan_take (v := ?_) rfl (by rfl) ?_ ?_
  rotate_left
  · intro _ hSw; (try dsimp only at hSw); have x1 := hSw.cell 1; go_simp; (try with_reducible rfl)
  simp only [List.setIfInBounds_toArray, List.set_cons_zero, List.set_cons_succ]
  refine plan_call rfl (by rfl) (by first | (go_simp; done) | (go_simp; rfl)) (mod_Evict _ bm bt tb lb c B L HD.out.m id hw) ?_
  rintro e w1 ⟨rfl, hm1, ho1⟩
  have ho1' : Only [bt, tb, lb] _ _ := ho1.mono (by simp)
  have HO1 := Lib.hid ho1'
  have HM1 := Lib.hid hm1
  have HR1 := Lib.hid (HD.out.mid HO1.out).1
  refine ⟨_, rfl, HO1.out.blk BD.out (by have x1 := blk_ne BD.out HD.out.m.2.1.1 (by decide); have x2 := own_ne_blk HD.out.m.2.1.2.1 BD.out; have x3 := own_ne_blk HD.out.m.2.2.1 BD.out; simp [x1, x2.symm, x3.symm]), ?_⟩
  clear hm1 ho1 ho1'
  simp only [List.setIfInBounds_toArray, List.set_cons_zero, List.set_cons_succ]
  (refine hPE _ _ ?_; simp only [List.drop_succ_cons, List.drop_zero]; clear hPE PE)
  go_wp2_with (go_at_call 36; refine (ref29_Evict _ rm rt base c L HR1.out id hw).mono ?_; rintro e w2 ⟨rfl, hr2, hf2⟩; have HFIN := Lib.hid (HD.out.both HO1.out HM1.out hr2 hf2 (q_out HD.out.q) (by have := HBB.out; omega) HBB.out.2); clear hr2 hf2)
  go_returns
  obtain ⟨f1, f2⟩ := HFIN.out
  have f3 : Below w.heap.size w (w.alloc (.cells #[.int .i64 6, .int .i64 id, .int .i64 n, .int .i64 a, .int .i64 b, .int .i64 cc, .int .i64 d, .int .i64 e0, .int .i64 f, .int .i64 g] 37)).drew := HB0.out.drew
  exact ⟨rfl, f1, ((f3.mono HBL.out).trans f2)⟩
set_option maxRecDepth 100000 in
set_option maxHeartbeats 4000000 in
theorem act_7 (w : World) (bm bt tb lb rm rt base : Nat) (c : Cfg) (B : Int) (L : List Ent) (h : AS bm bt tb lb rm rt base c B L w) (hB0 : 0 ≤ B) (hB : B + 1048576 ≤ 2 ^ 45) (id n a b cc d e0 f g : Int) (hw : (Lit.int .i64 id).wf = true) :
    Calls Tryz.prog 7 #[.pointer (some ⟨bm, 0, none⟩), .pointer (some ⟨rm, 0, none⟩), .agg #[.int .i64 7, .int .i64 id, .int .i64 n, .int .i64 a, .int .i64 b, .int .i64 cc, .int .i64 d, .int .i64 e0, .int .i64 f, .int .i64 g]] w (ActPost bm bt tb lb rm rt base c B w) := by
  have hb0 : Below w.heap.size w (w.alloc (.cells #[.int .i64 7, .int .i64 id, .int .i64 n, .int .i64 a, .int .i64 b, .int .i64 cc, .int .i64 d, .int .i64 e0, .int .i64 f, .int .i64 g] 37)) := (Below.refl _ _).alloc (Nat.le_refl _) _
  have H := Lib.hid (h.later hb0)
  have HB0 := Lib.hid hb0
  have HBL := Lib.hid h.base_le
  have B5 := Lib.hid (Blk.new w 37 #[.int .i64 7, .int .i64 id, .int .i64 n, .int .i64 a, .int .i64 b, .int .i64 cc, .int .i64 d, .int .i64 e0, .int .i64 f, .int .i64 g])
  have HBB := Lib.hid (And.intro hB0 hB)
  obtain ⟨V, hV⟩ := vict_exists (allH L)
  have HV := Lib.hid hV
  have HPL : Hid (∀ want, (pressF c L V want).1.length ≤ 1000) := Lib.hid fun want => by
    have h1 := plan_live hV (max (c.frames - allF L) 0) want
    have h2 := h.live
    have h3 := h.cfg.2.1
    unfold pressF
    split
    · dsimp only; omega
    · simp
  clear h hb0 hB0 hB hw hV
  go_enter Tryz.func7, Tryz.ntmps7
  go_wp2_with (first
    | (go_at_call 37; refine (mod_Press _ bm bt tb lb c B L H.out.m V HV.out n).mono ?_; rintro e w1 ⟨v1, rfl, hi1, hm1, ho1⟩; have HO1 := Lib.hid (ho1.mono (by simp) : Only [bt, tb, lb] _ _); have HM1 := Lib.hid hm1; have HI1 := Lib.hid hi1; have HR1 := Lib.hid (H.out.mid HO1.out).1; have hz := HO1.out.blk B5.out (by have x1 := blk_ne B5.out H.out.m.2.1.1 (by decide); have x2 := own_ne_blk H.out.m.2.1.2.1 B5.out; have x3 := own_ne_blk H.out.m.2.2.1 B5.out; simp [x1, x2.symm, x3.symm]); have z2 := hz.cell 2; clear hm1 ho1 hz hi1)
    | (go_at_call 38; refine (ref29_Press _ rm rt base c L HR1.out H.out.kn H.out.cfg H.out.live V HV.out n).mono ?_; rintro e w2 ⟨v2, rfl, hi2, hr2, hf2⟩; have HFIN := Lib.hid (H.out.both HO1.out HM1.out hr2 hf2 (q_press H.out.q) (by have := HBB.out; omega) HBB.out.2); have hi1b : IRow w2 _ v1 (pressF c L V n).1 := own_same HI1.out (fun g cs _ hb => hf2.blk hb (by decide)); have HJ1 := Lib.hid hi1b; have HJ2 := Lib.hid hi2; obtain ⟨A1, q1, rfl, hs1⟩ := hi1b.shape; obtain ⟨A2, q2, rfl, hs2⟩ := hi2.shape; have HSA := Lib.hid hs1; have HSB := Lib.hid hs2; clear hr2 hf2 hi1b hi2 hs1 hs2)
    | (go_at_call 11; refine (kit_SameInts _ A1 A2 (pressF c L V n).1 q1 q2 HSA.out HSB.out (HPL.out n)).mono ?_; rintro e w3 ⟨rfl, hb3⟩; have HB3 := Lib.hid hb3; have HJ3 := Lib.hid (HJ1.out.below hb3); clear hb3)
    | (go_at_call 15; refine (kit_OverInts _ _ _ _ HJ3.out (HPL.out n)).mono ?_; rintro e w4 ⟨⟨u, rfl⟩, ⟨l4, hi4⟩, ht4⟩; have HT4 := Lib.hid ht4; clear hi4 ht4))
  go_returns
  obtain ⟨⟨L', f1⟩, f2⟩ := HFIN.out
  obtain ⟨k1, k2⟩ := (f1.later HB3.out).over HJ3.out HT4.out (by have := HBL.out; have := HB0.out.size; omega)
  exact ⟨rfl, ⟨L', k1⟩, ((HB0.out.mono HBL.out).trans (f2.trans ((HB3.out.mono f1.base_le).trans k2)))⟩
set_option maxRecDepth 100000 in
set_option maxHeartbeats 4000000 in
theorem act_k (w : World) (bm bt tb lb rm rt base : Nat) (c : Cfg) (B : Int) (L : List Ent) (h : AS bm bt tb lb rm rt base c B L w) (hB0 : 0 ≤ B) (hB : B + 1048576 ≤ 2 ^ 45) (kd id n a b cc d e0 f g : Int) (hw : (Lit.int .i64 id).wf = true) (h0 : kd ≠ 0) (h1 : kd ≠ 1) (h2 : kd ≠ 2) (h3 : kd ≠ 3) (h4 : kd ≠ 4) (h5 : kd ≠ 5) (h6 : kd ≠ 6) (h7 : kd ≠ 7) :
    Calls Tryz.prog 7 #[.pointer (some ⟨bm, 0, none⟩), .pointer (some ⟨rm, 0, none⟩), .agg #[.int .i64 kd, .int .i64 id, .int .i64 n, .int .i64 a, .int .i64 b, .int .i64 cc, .int .i64 d, .int .i64 e0, .int .i64 f, .int .i64 g]] w (ActPost bm bt tb lb rm rt base c B w) := by
  have hb0 : Below w.heap.size w (w.alloc (.cells #[.int .i64 kd, .int .i64 id, .int .i64 n, .int .i64 a, .int .i64 b, .int .i64 cc, .int .i64 d, .int .i64 e0, .int .i64 f, .int .i64 g] 37)) := (Below.refl _ _).alloc (Nat.le_refl _) _
  have H := Lib.hid (h.later hb0)
  have HB0 := Lib.hid hb0
  have HBL := Lib.hid h.base_le
  have B5 := Lib.hid (Blk.new w 37 #[.int .i64 kd, .int .i64 id, .int .i64 n, .int .i64 a, .int .i64 b, .int .i64 cc, .int .i64 d, .int .i64 e0, .int .i64 f, .int .i64 g])
  have HBB := Lib.hid (And.intro hB0 hB)
  have d0 : (kd == 0) = false := beq_eq_false_iff_ne.2 h0
  have d1 : (kd == 1) = false := beq_eq_false_iff_ne.2 h1
  have d2 : (kd == 2) = false := beq_eq_false_iff_ne.2 h2
  have d3 : (kd == 3) = false := beq_eq_false_iff_ne.2 h3
  have d4 : (kd == 4) = false := beq_eq_false_iff_ne.2 h4
  have d5 : (kd == 5) = false := beq_eq_false_iff_ne.2 h5
  have d6 : (kd == 6) = false := beq_eq_false_iff_ne.2 h6
  have d7 : (kd == 7) = false := beq_eq_false_iff_ne.2 h7
  clear h hb0 hB0 hB hw h0 h1 h2 h3 h4 h5 h6 h7
  go_enter Tryz.func7, Tryz.ntmps7
  go_wp2
  go_returns
  exact ⟨rfl, ⟨L, ⟨H.out.m.mono (by omega) HBB.out.2, H.out.r, H.out.q, H.out.bt, H.out.tb, H.out.lb⟩⟩, HB0.out.mono HBL.out⟩
end Go.Proofs.YtklelheejopfmaaGreat
