/- Open26, Ref29, Stat -/
import Derived.Test.YtklelheejopfmaaGreatK19
namespace Go.Proofs.YtklelheejopfmaaGreat
open Go Go.RowKit Go.Maps
attribute [local go_sem] Oper.semAt_some
theorem RFq.of_set {base : Nat} {w : World} {g : Nat} {t : TypeId} {cs : Array Value} (hb : Blk w g t cs) {T : TypeId → Prop} (ht : T t) (hg : base ≤ g) (i : Nat) (u : Value) : RFq T base w (w.setCell ⟨g, i, none⟩ u) := by
  have h1 : Turn (RT T base w) w w := Turn.refl _ _
  exact h1.set (p := ⟨g, i, none⟩) (Or.inl ⟨hg, cs, t, (0, 0), hb, ht⟩) u
theorem RFq.of_grown {base e s n : Nat} {w w' : World} {v : Value} {xs : List Value} (h : w.ownsRow base e s v n xs) {T : TypeId → Prop} (ht : T e) (hg : w.grownBy w' v.ownBlock) : RFq T base w w' := by
  have h1 : Turn (RT T base w) w w := Turn.refl _ _
  refine h1.grown hg fun r hr => ?_
  rcases h.2 with ⟨rfl, _⟩ | ⟨g, cap, cur, rfl, hb, hh, _⟩
  · cases hr
  · cases hr
    exact .inl ⟨hb, cur, e, (0, 0), hh, ht⟩
theorem RFq.of_row {base e s n g cap : Nat} {w : World} {xs : List Value} (h : w.ownsRow base e s (.slice (some ⟨g, 0, none⟩) n cap) n xs) {T : TypeId → Prop} (ht : T e) (i : Nat) (u : Value) : RFq T base w (w.setCell ⟨g, i, none⟩ u) := by
  rcases h.2 with ⟨h1, _⟩ | ⟨g', cap', cur, h1, hb, hh, _⟩
  · cases h1
  · cases h1
    exact RFq.of_set (show Blk w g e cur from hh) ht hb i u
theorem etErrno : ElemT Tryz.prog 75 26 1 8 := .mk' (z := .int .i64 0) (by kernel_rfl) (by kernel_rfl) rfl (by decide) (by decide)
set_option maxRecDepth 100000 in
set_option maxHeartbeats 1000000 in
theorem ref26_Open_full (w : World) (rt base : Nat) (most : Int) (L : List Ent) (h : TAt w rt base most L) (hf : most ≤ (liveK L).length ∨ L.length = 2147483647) :
    Calls Tryz.prog 50 #[.pointer (some ⟨rt, 0, none⟩)] w fun e w' => e = .returned (.tuple #[.int .i64 0, .int .i64 15]) ∧ Below w.heap.size w w' := by
  have H := Lib.hid h
  obtain ⟨r, hr⟩ : ∃ r, (liveK L).length = r := ⟨_, rfl⟩
  rw [hr] at hf
  have CL := Lib.hid (ref26_Live w.drew rt base most L (h.later (Below.refl _ _).drew))
  have HR := Lib.hid hr
  by_cases h1 : most ≤ (r : Int)
  · have g1 : decide (most ≤ (r : Int)) = true := decide_eq_true h1
    clear h hf hr h1
    go_enter Tryz.func50, Tryz.ntmps50
    go_wp2_with fail
    refine wp_region_plan2 (fun W => TAt W rt base most L ∧ Below w.heap.size w W) 7 [(0, true), (3, true), (4, true), (5, true), (6, true), (1, false), (2, true)] (by kernel_rfl) (by kernel_rfl) (fun _ _ d _ _ h => by cases d <;> exact h) (by decide) (by simp only [List.map_cons, List.map_nil, Array.getD_eq_getD_getElem?, List.getElem?_toArray, List.getElem?_cons_zero, List.getElem?_cons_succ, Option.getD_some]; rfl) (by simp only [List.map_cons, List.map_nil]; rfl) (⟨H.out.later (Below.refl _ _).drew, (Below.refl _ _).drew⟩) (fun PE hPE => ?_)
    refine plan_take (v := ?_) rfl (by rfl) ?_ ?_
    rotate_left
    · intro _ hSw; (try dsimp only at hSw); go_simp; (try with_reducible rfl)
    simp only [List.setIfInBounds_toArray, List.set_cons_zero, List.set_cons_succ]
    refine plan_take (v := ?_) rfl (by rfl) ?_ ?_
    rotate_left
    · intro _ hSw; (try dsimp only at hSw); go_simp; (try with_reducible rfl)
    simp only [List.setIfInBounds_toArray, List.set_cons_zero, List.set_cons_succ]
    refine plan_take (v := ?_) rfl (by rfl) ?_ ?_
    rotate_left
    · intro _ hSw; (try dsimp only at hSw); go_simp; (try with_reducible rfl)
    simp only [List.setIfInBounds_toArray, List.set_cons_zero, List.set_cons_succ]
    refine plan_take (v := ?_) rfl (by rfl) ?_ ?_
    rotate_left
    · intro _ hSw; (try dsimp only at hSw); go_simp; (try with_reducible rfl)
    simp only [List.setIfInBounds_toArray, List.set_cons_zero, List.set_cons_succ]
    refine plan_take (v := ?_) rfl (by rfl) ?_ ?_
    rotate_left
    · intro _ hSw; (try dsimp only at hSw); obtain ⟨v, h1, _⟩ := hSw.1; have c0 := h1.cell 0; go_simp; (try with_reducible rfl)
    simp only [List.setIfInBounds_toArray, List.set_cons_zero, List.set_cons_succ]
    refine plan_call rfl (by rfl) (by first | (go_simp; done) | (go_simp; rfl)) CL.out ?_
    rintro e w4 ⟨v, rfl, ho, hb⟩
    obtain ⟨A, c, rfl, _⟩ := ho.shape
    rw [HR.out]
    have hb2 := undrew hb
    refine ⟨_, rfl, ⟨H.out.later hb2, hb2⟩, ?_⟩
    have HB := Lib.hid hb2
    clear ho hb hb2
    simp only [List.setIfInBounds_toArray, List.set_cons_zero, List.set_cons_succ]
    refine plan_take (v := ?_) rfl (by rfl) ?_ ?_
    rotate_left
    · intro _ hSw; (try dsimp only at hSw); go_simp; (try with_reducible rfl)
    simp only [List.setIfInBounds_toArray, List.set_cons_zero, List.set_cons_succ]
    (refine hPE _ _ ?_; simp only [List.drop_succ_cons, List.drop_zero]; clear hPE PE)
    go_wp2
    go_returns
    exact ⟨rfl, HB.out⟩
  · have g1 : decide (most ≤ (r : Int)) = false := decide_eq_false h1
    have hl : L.length = 2147483647 := by rcases hf with h2 | h2; exact absurd h2 h1; exact h2
    have HLL := Lib.hid hl
    have g2 : decide ((2147483647 : Int) ≤ (L.length : Int)) = true := decide_eq_true (by omega)
    clear h hf hr h1 hl
    go_enter Tryz.func50, Tryz.ntmps50
    go_wp2_with fail
    refine wp_region_plan2 (fun W => TAt W rt base most L ∧ Below w.heap.size w W) 7 [(0, true), (3, true), (4, true), (5, true), (6, true), (1, false), (2, true)] (by kernel_rfl) (by kernel_rfl) (fun _ _ d _ _ h => by cases d <;> exact h) (by decide) (by simp only [List.map_cons, List.map_nil, Array.getD_eq_getD_getElem?, List.getElem?_toArray, List.getElem?_cons_zero, List.getElem?_cons_succ, Option.getD_some]; rfl) (by simp only [List.map_cons, List.map_nil]; rfl) (⟨H.out.later (Below.refl _ _).drew, (Below.refl _ _).drew⟩) (fun PE hPE => ?_)
    refine plan_take (v := ?_) rfl (by rfl) ?_ ?_
    rotate_left
    · intro _ hSw; (try dsimp only at hSw); go_simp; (try with_reducible rfl)
    simp only [List.setIfInBounds_toArray, List.set_cons_zero, List.set_cons_succ]
    refine plan_take (v := ?_) rfl (by rfl) ?_ ?_
    rotate_left
    · intro _ hSw; (try dsimp only at hSw); go_simp; (try with_reducible rfl)
    simp only [List.setIfInBounds_toArray, List.set_cons_zero, List.set_cons_succ]
    refine plan_take (v := ?_) rfl (by rfl) ?_ ?_
    rotate_left
    · intro _ hSw; (try dsimp only at hSw); go_simp; (try with_reducible rfl)
    simp only [List.setIfInBounds_toArray, List.set_cons_zero, List.set_cons_succ]
    refine plan_take (v := ?_) rfl (by rfl) ?_ ?_
    rotate_left
    · intro _ hSw; (try dsimp only at hSw); go_simp; (try with_reducible rfl)
    simp only [List.setIfInBounds_toArray, List.set_cons_zero, List.set_cons_succ]
    refine plan_take (v := ?_) rfl (by rfl) ?_ ?_
    rotate_left
    · intro _ hSw; (try dsimp only at hSw); obtain ⟨v, h1, _⟩ := hSw.1; have c0 := h1.cell 0; go_simp; (try with_reducible rfl)
    simp only [List.setIfInBounds_toArray, List.set_cons_zero, List.set_cons_succ]
    refine plan_call rfl (by rfl) (by first | (go_simp; done) | (go_simp; rfl)) CL.out ?_
    rintro e w4 ⟨v, rfl, ho, hb⟩
    obtain ⟨A, c, rfl, _⟩ := ho.shape
    rw [HR.out]
    have hb2 := undrew hb
    refine ⟨_, rfl, ⟨H.out.later hb2, hb2⟩, ?_⟩
    obtain ⟨v4, k1, k2, _⟩ := H.out.later hb2
    obtain ⟨A4, c4, rfl⟩ := own_any k2
    have d1 := k1.cell 1
    have HB := Lib.hid hb2
    clear ho hb hb2 k1 k2
    simp only [List.setIfInBounds_toArray, List.set_cons_zero, List.set_cons_succ]
    refine plan_take (v := ?_) rfl (by rfl) ?_ ?_
    rotate_left
    · intro _ hSw; (try dsimp only at hSw); go_simp; (try with_reducible rfl)
    simp only [List.setIfInBounds_toArray, List.set_cons_zero, List.set_cons_succ]
    (refine hPE _ _ ?_; simp only [List.drop_succ_cons, List.drop_zero]; clear hPE PE)
    go_wp2
    go_returns
    exact ⟨rfl, HB.out⟩
set_option maxRecDepth 100000 in
set_option maxHeartbeats 1000000 in
theorem ref26_Open_ok (w : World) (rt base : Nat) (most : Int) (L : List Ent) (h : TAt w rt base most L) (hf : ((liveK L).length : Int) < most) (hl : L.length < 2147483647) (hbw : base ≤ w.heap.size) (k : Kn) :
    Calls Tryz.prog 50 #[.pointer (some ⟨rt, 0, none⟩)] w fun e w' => e = .returned (.tuple #[.int .i64 ((L.length : Int) + 1), .int .i64 0]) ∧ TAt w' rt base most (L ++ [(0, k)]) ∧ RFq T26 base w w' := by
  have H := Lib.hid h
  obtain ⟨r, hr⟩ : ∃ r, (liveK L).length = r := ⟨_, rfl⟩
  rw [hr] at hf
  have CL := Lib.hid (ref26_Live w.drew rt base most L (h.later (Below.refl _ _).drew))
  have HR := Lib.hid hr
  have g1 : decide (most ≤ (r : Int)) = false := decide_eq_false (by omega)
  have g2 : decide ((2147483647 : Int) ≤ (L.length : Int)) = false := decide_eq_false (by omega)
  have HL := Lib.hid hl
  have HBW := Lib.hid hbw
  clear h hf hr hl hbw
  go_enter Tryz.func50, Tryz.ntmps50
  go_wp2_with fail
  refine wp_region_plan2 (fun W => TAt W rt base most L ∧ Below w.heap.size w W) 7 [(0, true), (3, true), (4, true), (5, true), (6, true), (1, false), (2, true)] (by kernel_rfl) (by kernel_rfl) (fun _ _ d _ _ h => by cases d <;> exact h) (by decide) (by simp only [List.map_cons, List.map_nil, Array.getD_eq_getD_getElem?, List.getElem?_toArray, List.getElem?_cons_zero, List.getElem?_cons_succ, Option.getD_some]; rfl) (by simp only [List.map_cons, List.map_nil]; rfl) (⟨H.out.later (Below.refl _ _).drew, (Below.refl _ _).drew⟩) (fun PE hPE => ?_)
  refine plan_take (v := ?_) rfl (by rfl) ?_ ?_
  rotate_left
  · intro _ hSw; (try dsimp only at hSw); go_simp; (try with_reducible rfl)
  simp only [List.setIfInBounds_toArray, List.set_cons_zero, List.set_cons_succ]
  refine plan_take (v := ?_) rfl (by rfl) ?_ ?_
  rotate_left
  · intro _ hSw; (try dsimp only at hSw); go_simp; (try with_reducible rfl)
  simp only [List.setIfInBounds_toArray, List.set_cons_zero, List.set_cons_succ]
  refine plan_take (v := ?_) rfl (by rfl) ?_ ?_
  rotate_left
  · intro _ hSw; (try dsimp only at hSw); go_simp; (try with_reducible rfl)
  simp only [List.setIfInBounds_toArray, List.set_cons_zero, List.set_cons_succ]
  refine plan_take (v := ?_) rfl (by rfl) ?_ ?_
  rotate_left
  · intro _ hSw; (try dsimp only at hSw); go_simp; (try with_reducible rfl)
  simp only [List.setIfInBounds_toArray, List.set_cons_zero, List.set_cons_succ]
  refine plan_take (v := ?_) rfl (by rfl) ?_ ?_
  rotate_left
  · intro _ hSw; (try dsimp only at hSw); obtain ⟨v, h1, _⟩ := hSw.1; have c0 := h1.cell 0; go_simp; (try with_reducible rfl)
  simp only [List.setIfInBounds_toArray, List.set_cons_zero, List.set_cons_succ]
  refine plan_call rfl (by rfl) (by first | (go_simp; done) | (go_simp; rfl)) CL.out ?_
  rintro e w4 ⟨v, rfl, ho, hb⟩
  obtain ⟨A, c, rfl, _⟩ := ho.shape
  rw [HR.out]
  have hb2 := undrew hb
  refine ⟨_, rfl, ⟨H.out.later hb2, hb2⟩, ?_⟩
  obtain ⟨v4, k1, k2, k3, k4⟩ := H.out.later hb2
  obtain ⟨A4, c4, rfl⟩ := own_any k2
  have d1 := k1.cell 1
  have HB := Lib.hid hb2
  have K1 := Lib.hid k1
  have K2 := Lib.hid k2
  have K4 := Lib.hid k4
  clear ho hb hb2 k1 k2 k3 k4
  simp only [List.setIfInBounds_toArray, List.set_cons_zero, List.set_cons_succ]
  refine plan_take (v := ?_) rfl (by rfl) ?_ ?_
  rotate_left
  · intro _ hSw; (try dsimp only at hSw); go_simp; (try with_reducible rfl)
  simp only [List.setIfInBounds_toArray, List.set_cons_zero, List.set_cons_succ]
  (refine hPE _ _ ?_; simp only [List.drop_succ_cons, List.drop_zero]; clear hPE PE)
  go_wp2_with (at_builtin; refine wpList_app etErrno rfl rfl rfl (own_below K2.out ((Below.refl _ _).alloc (Nat.le_refl _) (.cells #[.int .i64 0] 26)) (Nat.le_refl _)) rfl (m := 1) (news := [.int .i64 0]) rfl ((Blk.new _ 26 #[.int .i64 0]).sl 0) (by intro u hu; simp at hu; subst hu; rfl) (by have := HL.out; omega) (by rw [World.size_alloc]; have := HB.out.size; have := HBW.out; omega) ?_; intro v5 w5 ho5 hg5 hor5; obtain ⟨A5, c5, rfl⟩ := own_any ho5; have ha2 := own_below K2.out ((Below.refl _ _).alloc (Nat.le_refl _) (.cells #[.int .i64 0] 26)) (Nat.le_refl _); have hk5 : Blk w5 rt 77 #[.int .i64 most, .slice A4 L.length c4] := (K1.out.alloc _).grown hg5 (own_blk_ne ha2 (K1.out.alloc _) (by decide)); have e1 := hk5.cell 1; have f1 := hk5.frozen 1; have z1 := (hk5.set_ 1 (.slice A5 (L.length + 1) c5)).cell 1; have HK5 := Lib.hid hk5; have HO5 := Lib.hid ho5; have HF5 := Lib.hid ((RFq.of_below (T := T26) (base := base) HB.out).trans ((RFq.of_below ((Below.refl _ _).alloc (Nat.le_refl _) (.cells #[.int .i64 0] 26))).trans (RFq.of_grown ha2 (.inr rfl) hg5))); clear ho5 hg5 hor5 hk5 ha2)
  go_returns
  have hlen : (L ++ [(0, k)]).length = L.length + 1 := by simp
  refine ⟨rfl, ⟨_, HK5.out.set_ 1 _, ?_, by rw [hlen]; exact HL.out, K4.out⟩, HF5.out.trans (RFq.of_set HK5.out (.inl rfl) K4.out 1 _)⟩
  rw [hlen]
  have h1 := own_set HO5.out ⟨rt, 1, none⟩ (.slice A5 (L.length + 1) c5) (own_blk_ne HO5.out HK5.out (by decide))
  unfold caV
  rw [List.map_append]
  exact h1
set_option maxRecDepth 100000 in
set_option maxHeartbeats 1000000 in
theorem ref26_End_ok (w : World) (rt base : Nat) (most : Int) (L : List Ent) (h : TAt w rt base most L) (id c : Int) (hc : c ≠ 0) (k : Kn) (ha : atL L id = some (0, k)) :
    Calls Tryz.prog 55 #[.pointer (some ⟨rt, 0, none⟩), .int .i64 id, .int .i64 c] w fun e w' => e = .returned (.int .i64 0) ∧ TAt w' rt base most (L.set (id - 1).toNat (c, k)) ∧ RFq T26 base w w' := by
  obtain ⟨v, h1, h2, h3, h4⟩ := h
  obtain ⟨A, cp, rfl⟩ := own_any h2
  have hwf := atL_wf ha
  obtain ⟨i, hi⟩ : ∃ i : Nat, id = (i : Int) + 1 := ⟨(id - 1).toNat, by omega⟩
  subst hi
  have hil : i < L.length := by omega
  rw [atL_nat hil] at ha
  injection ha with ha
  have e0 : ((i : Int) + 1 - 1).toNat = i := by omega
  rw [e0]
  obtain ⟨g, cap, e, _, _⟩ := row_shape h2 (by omega)
  injection e with e1 e2 e3
  subst e1 e3
  have c1 := h1.cell 1
  have c2 := row_cell1 h2 i hil
  rw [caV_get hil, ha] at c2
  have f2 := h2.frozenAt i
  have g0 : (c == 0) = false := beq_eq_false_iff_ne.2 hc
  have g1 : decide ((i : Int) + 1 < 1) = false := decide_eq_false (by omega)
  have g2 : decide ((L.length : Int) < (i : Int) + 1) = false := decide_eq_false (by omega)
  have i0 : ¬ (i : Int) < 0 := by omega
  have i1 : (i : Int) < (L.length : Int) := by omega
  have w1 : IntKind.i64.wrap (i : Int) = (i : Int) := by rw [IntKind.wrap_i64]; omega
  have hP : TAt (w.setCell ⟨g, i, none⟩ (.int .i64 c)) rt base most (L.set i (c, k)) := by
    have hs := (h2.stored i (.int .i64 c)).1
    have hne : rt ≠ g := fun e => by have := own_blk_ne h2 h1 (by decide); exact this (by rw [e]; rfl)
    have hlen : (L.set i (c, k)).length = L.length := by simp
    refine ⟨_, h1.far (p := ⟨g, i, none⟩) hne _, ?_, by rw [hlen]; exact h3, h4⟩
    rw [hlen]
    unfold caV at hs ⊢
    rw [List.map_set]
    exact hs
  have HP := Lib.hid (And.intro hP (RFq.of_row (T := T26) h2 (.inr rfl) i (.int .i64 c)))
  clear h1 h2 h3 h4 hc ha hwf e2 e0 hP hil
  go_enter Tryz.func55, Tryz.ntmps55
  go_wp2
  go_returns
  exact ⟨rfl, HP.out⟩
end Go.Proofs.YtklelheejopfmaaGreat
namespace Go.Proofs.YtklelheejopfmaaGreat
open Go Go.RowKit Go.Maps
attribute [local go_sem] Oper.semAt_some
def knC (k : Kn) : List Value := [.int .i64 k.came, .bool k.ended, .int .i64 k.cause, .int .i64 k.queued, .int .i64 k.left, .int .i64 k.free, .int .i64 k.frames, .int .i64 k.pics, .int .i64 k.gone]
theorem knC_len (k : Kn) : (knC k).length = 9 := rfl
def knL (L : List Ent) : List Kn := L.map (·.2)
theorem knL_len (L : List Ent) : (knL L).length = L.length := by simp [knL]
def cfgC (c : Cfg) (rt : Nat) (v : Value) : Array Value := #[.int .i64 c.sess, .int .i64 c.frames, .int .i64 c.quota, .int .i64 c.room, .int .i64 c.slots, .pointer (some ⟨rt, 0, none⟩), v]
/-- the reference's model holds L. -/
def RAt (w : World) (rm rt base : Nat) (c : Cfg) (L : List Ent) : Prop :=
  ∃ v, Blk w rm 46 #[.int .i64 c.sess, .int .i64 c.frames, .int .i64 c.quota, .int .i64 c.room, .int .i64 c.slots, .pointer (some ⟨rt, 0, none⟩), v] ∧ w.ownsRow base 74 9 v L.length (rowC knC (knL L)) ∧ TAt w rt base c.sess L ∧ base ≤ rm
theorem RAt.later {w w' : World} {rm rt base : Nat} {c : Cfg} {L : List Ent} (h : RAt w rm rt base c L) (hb : Below w.heap.size w w') : RAt w' rm rt base c L := by
  obtain ⟨v, h1, h2, h3, h4⟩ := h
  exact ⟨v, h1.below hb h1.lt, own_below h2 hb (Nat.le_refl _), h3.later hb, h4⟩
theorem RAt.base_le {w : World} {rm rt base : Nat} {c : Cfg} {L : List Ent} (h : RAt w rm rt base c L) : base ≤ w.heap.size := by
  obtain ⟨v, h1, h2, h3, h4⟩ := h
  have := h1.lt
  omega
/-- what the model does, the reference's blocks do not feel. -/
theorem RAt.only {w w' : World} {rm rt base : Nat} {c c' : Cfg} {L L' : List Ent} {bm bt tb lb : Nat} {B : Int} (h : RAt w rm rt base c L) (hm : MAt w bm bt tb lb c' B L') (ho : Only [bt, tb, lb] w w') : RAt w' rm rt base c L := by
  have hn : ∀ g cs t, (t = 46 ∨ t = 77 ∨ t = 74 ∨ t = 26) → Blk w g t cs → g ∉ [bt, tb, lb] := fun g cs t ht hb => by
    have h1 : g ≠ bt := blk_ne hb hm.2.1.1 (by rintro rfl; revert ht; decide)
    have h2 : g ≠ tb := (own_ne_blk hm.2.1.2.1 hb).symm
    have h3 : g ≠ lb := (own_ne_blk hm.2.2.1 hb).symm
    simp [h1, h2, h3]
  obtain ⟨v, h1, h2, h3, h4⟩ := h
  exact ⟨v, ho.blk h1 (hn _ _ _ (.inl rfl) h1), own_same h2 (fun g cs _ hb => ho.blk hb (hn _ _ _ (.inr (.inr (.inl rfl))) hb)), h3.only ho (fun g cs t ht hb => hn g cs t (by rcases ht with h | h; exact .inr (.inl h); exact .inr (.inr (.inr h))) hb), h4⟩
/-- the cells of one number. -/
theorem RAt.row {w : World} {rm rt base : Nat} {c : Cfg} {L : List Ent} (h : RAt w rm rt base c L) {i : Nat} (hi : i < L.length) : ∃ g cap, w.cell? ⟨rm, 6, none⟩ = some (.slice (some ⟨g, 0, none⟩) L.length cap) ∧ base ≤ g ∧ (∀ j < 9, w.cell? ⟨g, i * 9 + j, none⟩ = (knC L[i].2)[j]?) ∧ (∀ j, w.frozen? ⟨g, j, none⟩ = false) := by
  obtain ⟨v, h1, h2, h3, h4⟩ := h
  obtain ⟨g, cap, rfl, hb, _⟩ := row_shape h2 (by omega)
  refine ⟨g, cap, h1.cell 6, hb, fun j hj => ?_, fun j => h2.frozenAt j⟩
  have := row_cell knC_len h2 i (by rw [knL_len]; exact hi) j hj
  rw [this]
  simp [knL]
/-- one cell of one number is turned. -/
theorem RAt.put {w : World} {rm rt base : Nat} {c : Cfg} {L : List Ent} (h : RAt w rm rt base c L) {i : Nat} (hi : i < L.length) {g cap : Nat} (hg : w.cell? ⟨rm, 6, none⟩ = some (.slice (some ⟨g, 0, none⟩) L.length cap)) (j : Nat) (hj : j < 9) (u : Value) (d : Int) (k : Kn) (hd : d = L[i].1) (hk : knC k = (knC L[i].2).set j u) :
    RAt (w.setCell ⟨g, i * 9 + j, none⟩ u) rm rt base c (L.set i (d, k)) ∧ RFq T29 base w (w.setCell ⟨g, i * 9 + j, none⟩ u) := by
  obtain ⟨v, h1, h2, ⟨vt, t1, t2, t3⟩, h4⟩ := h
  have hv : v = .slice (some ⟨g, 0, none⟩) L.length cap := by
    have := h1.cell 6
    rw [hg] at this
    simpa using this.symm
  subst hv
  have hne : rm ≠ g := fun e => by have := own_blk_ne h2 h1 (by decide); exact this (by rw [e]; rfl)
  have hnt : rt ≠ g := fun e => by have := own_blk_ne h2 t1 (by decide); exact this (by rw [e]; rfl)
  have hs := row_set knC_len (xs := knL L) h2 i (by rw [knL_len]; exact hi) j hj u k (by rw [hk]; simp [knL])
  refine ⟨⟨_, h1.far (p := ⟨g, i * 9 + j, none⟩) hne _, ?_, ⟨vt, t1.far (p := ⟨g, i * 9 + j, none⟩) hnt _, ?_, by rw [List.length_set]; exact t3.1, t3.2⟩, h4⟩, RFq.of_row h2 (.inr (.inr (.inl rfl))) _ _⟩
  · rw [List.length_set]
    have e : knL (L.set i (d, k)) = (knL L).set i k := by unfold knL; rw [List.map_set]
    rw [e]
    exact hs
  · rw [List.length_set]
    have e : caV (L.set i (d, k)) = caV L := by
      unfold caV
      rw [List.map_set, hd]
      have h5 : (Value.int .i64 L[i].1) = (L.map fun x => Value.int .i64 x.1)[i]'(by simpa using hi) := by simp
      show (L.map fun x => Value.int .i64 x.1).set i (Value.int .i64 L[i].1) = _
      rw [h5, List.set_getElem_self]
    rw [e]
    exact own_set t2 _ _ (row_apart t2 h2 (by decide) g rfl)
theorem ref29_within (n lo hi : Int) (w : World) : Calls Tryz.prog 18 #[.int .i64 n, .int .i64 lo, .int .i64 hi] w fun e w' => e = .returned (.bool (decide (lo ≤ n ∧ n ≤ hi))) ∧ w = w' := by
  by_cases h1 : lo ≤ n
  · have e1 : decide (lo ≤ n ∧ n ≤ hi) = decide (n ≤ hi) := by simp [h1]
    rw [e1]
    clear e1
    go_enter Tryz.func18, Tryz.ntmps18
    go_wp2
    go_ret
    exact ⟨rfl, rfl⟩
  · have e1 : decide (lo ≤ n ∧ n ≤ hi) = false := by simp [h1]
    rw [e1]
    clear e1
    go_enter Tryz.func18, Tryz.ntmps18
    go_wp2
    go_ret
    exact ⟨rfl, rfl⟩
set_option maxRecDepth 100000 in
theorem ref29_refuses (w : World) (rm rt base : Nat) (c : Cfg) (L : List Ent) (h : RAt w rm rt base c L) (id : Int) (hw : (Lit.int .i64 id).wf = true) :
    Calls Tryz.prog 52 #[.pointer (some ⟨rm, 0, none⟩), .int .i64 id] w fun e w' => e = .returned (.int .i64 (whyF L id)) ∧ Below w.heap.size w w' := by
  obtain ⟨v, h1, h2, h3, h4⟩ := h
  have c5 := h1.cell 5
  have CC := Lib.hid (ref26_Cause w rt base c.sess L h3 id hw)
  unfold causeF at CC
  unfold whyF
  clear h1 h2 h3 h4 hw
  cases ha : atL L id with
  | none =>
    rw [ha] at CC
    dsimp only at CC ⊢
    clear ha
    go_enter Tryz.func52, Tryz.ntmps52
    go_wp2_with (go_at_call 41; refine CC.out.mono ?_; rintro e w1 ⟨rfl, hb1⟩; have HB1 := Lib.hid hb1; clear hb1)
    go_ret
    exact ⟨rfl, HB1.out⟩
  | some x =>
    rw [ha] at CC
    dsimp only at CC ⊢
    clear ha
    go_enter Tryz.func52, Tryz.ntmps52
    go_wp2_with (go_at_call 41; refine CC.out.mono ?_; rintro e w1 ⟨rfl, hb1⟩; have HB1 := Lib.hid hb1; clear hb1)
    go_ret
    exact ⟨rfl, HB1.out⟩
set_option maxRecDepth 100000 in
theorem ref29_counts (w : World) (rm g o : Nat) (came gone room l0 f0 l1 f1 d8 : Int) (h0 : w.cell? ⟨g, o, none⟩ = some (.int .i64 came)) (h8 : w.cell? ⟨g, o + 8, none⟩ = some (.int .i64 gone)) (h4 : w.cell? ⟨g, o + 4, none⟩ = some (.int .i64 l0)) (h5 : w.cell? ⟨g, o + 5, none⟩ = some (.int .i64 f0))
    (h3 : w.cell? ⟨rm, 3, none⟩ = some (.int .i64 room)) (hfr : ∀ j, w.frozen? ⟨g, j, none⟩ = false) (hne : rm ≠ g) (e1 : wrap64 (8 * came) = 8 * came) (e2 : wrap64 (8 * came - gone) = l1) (e3 : gone.tdiv 8 = d8) (e4 : wrap64 d8 = d8) (e5 : wrap64 (room - came) = room - came) (e6 : wrap64 (room - came + d8) = f1) :
    Calls Tryz.prog 53 #[.pointer (some ⟨rm, 0, none⟩), .pointer (some ⟨g, o, none⟩)] w fun e w' => (∃ u, e = .returned u) ∧ w' = (((w.setCell ⟨g, o + 4, none⟩ (.int .i64 l1)).drew).setCell ⟨g, o + 5, none⟩ (.int .i64 f1)).drew := by
  have wk : ∀ x y : Int, wrap64 x = y → IntKind.i64.wrap x = y := fun x y hxy => by unfold wrap64 at hxy; rw [IntKind.wrap_i64]; omega
  have k1 := wk _ _ e1; have k2 := wk _ _ e2; have k4 := wk _ _ e4; have k5 := wk _ _ e5; have k6 := wk _ _ e6
  have F : Hid (∀ j, w.frozen? ⟨g, j, none⟩ = false) := Lib.hid hfr
  have f4 := hfr (o + 4)
  have f5 := hfr (o + 5)
  have HN := Lib.hid hne
  clear wk hfr hne
  go_enter Tryz.func53, Tryz.ntmps53
  go_wp2_with fail
  refine wp_region_plan2 (fun W => W.cell? ⟨g, o, none⟩ = some (.int .i64 came) ∧ W.cell? ⟨g, o + 8, none⟩ = some (.int .i64 gone)) 12 [(0, true), (1, true), (2, true), (3, true), (4, true), (5, true), (6, true), (7, true), (8, true), (9, true), (10, true), (11, true)] (by kernel_rfl) (by kernel_rfl) (fun _ _ d _ _ h => by cases d <;> exact h) (by decide) (by simp only [List.map_cons, List.map_nil, Array.getD_eq_getD_getElem?, List.getElem?_toArray, List.getElem?_cons_zero, List.getElem?_cons_succ, Option.getD_some]; rfl) (by simp only [List.map_cons, List.map_nil]; rfl) (⟨h0, h8⟩) (fun PE hPE => ?_)
  refine plan_take (v := ?_) rfl (by rfl) ?_ ?_
  rotate_left
  · intro _ hSw; (try dsimp only at hSw); go_simp; (try with_reducible rfl)
  simp only [List.setIfInBounds_toArray, List.set_cons_zero, List.set_cons_succ]
  refine plan_take (v := ?_) rfl (by rfl) ?_ ?_
  rotate_left
  · intro _ hSw; (try dsimp only at hSw); go_simp; (try with_reducible rfl)
  simp only [List.setIfInBounds_toArray, List.set_cons_zero, List.set_cons_succ]
  refine plan_take (v := ?_) rfl (by rfl) ?_ ?_
  rotate_left
  · intro _ hSw; (try dsimp only at hSw); go_simp; (try with_reducible rfl)
  simp only [List.setIfInBounds_toArray, List.set_cons_zero, List.set_cons_succ]
  refine plan_take (v := ?_) rfl (by rfl) ?_ ?_
  rotate_left
  · intro _ hSw; (try dsimp only at hSw); go_simp; (try with_reducible rfl)
  simp only [List.setIfInBounds_toArray, List.set_cons_zero, List.set_cons_succ]
  refine plan_take (v := ?_) rfl (by rfl) ?_ ?_
  rotate_left
  · intro _ hSw; (try dsimp only at hSw); have c1 := hSw.1; go_simp; (try with_reducible rfl)
  simp only [List.setIfInBounds_toArray, List.set_cons_zero, List.set_cons_succ]
  refine plan_take (v := ?_) rfl (by rfl) ?_ ?_
  rotate_left
  · intro _ hSw; (try dsimp only at hSw); go_simp; (try with_reducible rfl)
  simp only [List.setIfInBounds_toArray, List.set_cons_zero, List.set_cons_succ]
  refine plan_take (v := ?_) rfl (by rfl) ?_ ?_
  rotate_left
  · intro _ hSw; (try dsimp only at hSw); go_simp; (try with_reducible rfl)
  simp only [List.setIfInBounds_toArray, List.set_cons_zero, List.set_cons_succ]
  refine plan_take (v := ?_) rfl (by rfl) ?_ ?_
  rotate_left
  · intro _ hSw; (try dsimp only at hSw); go_simp; (try with_reducible rfl)
  simp only [List.setIfInBounds_toArray, List.set_cons_zero, List.set_cons_succ]
  refine plan_take (v := ?_) rfl (by rfl) ?_ ?_
  rotate_left
  · intro _ hSw; (try dsimp only at hSw); go_simp; (try with_reducible rfl)
  simp only [List.setIfInBounds_toArray, List.set_cons_zero, List.set_cons_succ]
  refine plan_take (v := ?_) rfl (by rfl) ?_ ?_
  rotate_left
  · intro _ hSw; (try dsimp only at hSw); go_simp; (try with_reducible rfl)
  simp only [List.setIfInBounds_toArray, List.set_cons_zero, List.set_cons_succ]
  refine plan_take (v := ?_) rfl (by rfl) ?_ ?_
  rotate_left
  · intro _ hSw; (try dsimp only at hSw); have c1 := hSw.2; go_simp; (try with_reducible rfl)
  simp only [List.setIfInBounds_toArray, List.set_cons_zero, List.set_cons_succ]
  refine plan_take (v := ?_) rfl (by rfl) ?_ ?_
  rotate_left
  · intro _ hSw; (try dsimp only at hSw); go_simp; (try with_reducible rfl)
  simp only [List.setIfInBounds_toArray, List.set_cons_zero, List.set_cons_succ]
  (refine hPE _ _ ?_; simp only [List.drop_succ_cons, List.drop_zero]; clear hPE PE)
  go_wp2_with fail
  have nn : ∀ i j : Nat, i ≠ j → (⟨g, i, none⟩ : Addr) ≠ ⟨g, j, none⟩ := fun i j hij e => hij (by injection e)
  have nr : (⟨g, o + 4, none⟩ : Addr) ≠ ⟨rm, 3, none⟩ := fun e => by injection e with e1 _; exact HN.out e1.symm
  have x0 : (w.setCell ⟨g, o + 4, none⟩ (.int .i64 l1)).drew.cell? ⟨g, o, none⟩ = some (.int .i64 came) := (show (w.setCell ⟨g, o + 4, none⟩ (.int .i64 l1)).cell? ⟨g, o, none⟩ = _ from (World.cell?_setCell_other _ _ _ _ (nn (o + 4) (o) (by omega))).trans h0)
  have x8 : (w.setCell ⟨g, o + 4, none⟩ (.int .i64 l1)).drew.cell? ⟨g, o + 8, none⟩ = some (.int .i64 gone) := (show (w.setCell ⟨g, o + 4, none⟩ (.int .i64 l1)).cell? ⟨g, o + 8, none⟩ = _ from (World.cell?_setCell_other _ _ _ _ (nn (o + 4) (o + 8) (by omega))).trans h8)
  have x5 : (w.setCell ⟨g, o + 4, none⟩ (.int .i64 l1)).drew.cell? ⟨g, o + 5, none⟩ = some (.int .i64 f0) := (show (w.setCell ⟨g, o + 4, none⟩ (.int .i64 l1)).cell? ⟨g, o + 5, none⟩ = _ from (World.cell?_setCell_other _ _ _ _ (nn (o + 4) (o + 5) (by omega))).trans h5)
  have x3 : (w.setCell ⟨g, o + 4, none⟩ (.int .i64 l1)).drew.cell? ⟨rm, 3, none⟩ = some (.int .i64 room) := (show (w.setCell ⟨g, o + 4, none⟩ (.int .i64 l1)).cell? ⟨rm, 3, none⟩ = _ from (World.cell?_setCell_other _ _ _ _ nr).trans h3)
  have y5 : (w.setCell ⟨g, o + 4, none⟩ (.int .i64 l1)).drew.frozen? ⟨g, o + 5, none⟩ = false := by
    have h1 : (w.setCell ⟨g, o + 4, none⟩ (.int .i64 l1)).frozen? ⟨g, o + 5, none⟩ = w.frozen? ⟨g, o + 5, none⟩ := by simp
    exact h1.trans (F.out _)
  clear nn nr h0 h8 h4 h5 h3 f4 f5
  change Code.wp _ _ _ _ ((w.setCell ⟨g, o + 4, none⟩ (.int .i64 l1)).drew)
  generalize hVe : (w.setCell ⟨g, o + 4, none⟩ (.int .i64 l1)).drew = V at x0 x8 x5 x3 y5 ⊢
  have HVE := Lib.hid hVe
  clear hVe
  refine wp_region_plan2 (fun W => W.cell? ⟨g, o, none⟩ = some (.int .i64 came) ∧ W.cell? ⟨g, o + 8, none⟩ = some (.int .i64 gone) ∧ W.cell? ⟨rm, 3, none⟩ = some (.int .i64 room)) 18 [(0, true), (1, true), (2, true), (3, true), (4, true), (5, true), (6, true), (7, true), (8, true), (9, true), (10, true), (11, true), (12, true), (13, true), (14, true), (15, true), (16, true), (17, true)] (by kernel_rfl) (by kernel_rfl) (fun _ _ d _ _ h => by cases d <;> exact h) (by decide) (by simp only [List.map_cons, List.map_nil, Array.getD_eq_getD_getElem?, List.getElem?_toArray, List.getElem?_cons_zero, List.getElem?_cons_succ, Option.getD_some]; rfl) (by simp only [List.map_cons, List.map_nil]; rfl) (⟨x0, x8, x3⟩) (fun PE hPE => ?_)
  refine plan_take (v := ?_) rfl (by rfl) ?_ ?_
  rotate_left
  · intro _ hSw; (try dsimp only at hSw); go_simp; (try with_reducible rfl)
  simp only [List.setIfInBounds_toArray, List.set_cons_zero, List.set_cons_succ]
  refine plan_take (v := ?_) rfl (by rfl) ?_ ?_
  rotate_left
  · intro _ hSw; (try dsimp only at hSw); go_simp; (try with_reducible rfl)
  simp only [List.setIfInBounds_toArray, List.set_cons_zero, List.set_cons_succ]
  refine plan_take (v := ?_) rfl (by rfl) ?_ ?_
  rotate_left
  · intro _ hSw; (try dsimp only at hSw); go_simp; (try with_reducible rfl)
  simp only [List.setIfInBounds_toArray, List.set_cons_zero, List.set_cons_succ]
  refine plan_take (v := ?_) rfl (by rfl) ?_ ?_
  rotate_left
  · intro _ hSw; (try dsimp only at hSw); go_simp; (try with_reducible rfl)
  simp only [List.setIfInBounds_toArray, List.set_cons_zero, List.set_cons_succ]
  refine plan_take (v := ?_) rfl (by rfl) ?_ ?_
  rotate_left
  · intro _ hSw; (try dsimp only at hSw); go_simp; (try with_reducible rfl)
  simp only [List.setIfInBounds_toArray, List.set_cons_zero, List.set_cons_succ]
  refine plan_take (v := ?_) rfl (by rfl) ?_ ?_
  rotate_left
  · intro _ hSw; (try dsimp only at hSw); have c1 := hSw.2.2; go_simp; (try with_reducible rfl)
  simp only [List.setIfInBounds_toArray, List.set_cons_zero, List.set_cons_succ]
  refine plan_take (v := ?_) rfl (by rfl) ?_ ?_
  rotate_left
  · intro _ hSw; (try dsimp only at hSw); go_simp; (try with_reducible rfl)
  simp only [List.setIfInBounds_toArray, List.set_cons_zero, List.set_cons_succ]
  refine plan_take (v := ?_) rfl (by rfl) ?_ ?_
  rotate_left
  · intro _ hSw; (try dsimp only at hSw); go_simp; (try with_reducible rfl)
  simp only [List.setIfInBounds_toArray, List.set_cons_zero, List.set_cons_succ]
  refine plan_take (v := ?_) rfl (by rfl) ?_ ?_
  rotate_left
  · intro _ hSw; (try dsimp only at hSw); go_simp; (try with_reducible rfl)
  simp only [List.setIfInBounds_toArray, List.set_cons_zero, List.set_cons_succ]
  refine plan_take (v := ?_) rfl (by rfl) ?_ ?_
  rotate_left
  · intro _ hSw; (try dsimp only at hSw); have c1 := hSw.1; go_simp; (try with_reducible rfl)
  simp only [List.setIfInBounds_toArray, List.set_cons_zero, List.set_cons_succ]
  refine plan_take (v := ?_) rfl (by rfl) ?_ ?_
  rotate_left
  · intro _ hSw; (try dsimp only at hSw); go_simp; (try with_reducible rfl)
  simp only [List.setIfInBounds_toArray, List.set_cons_zero, List.set_cons_succ]
  refine plan_take (v := ?_) rfl (by rfl) ?_ ?_
  rotate_left
  · intro _ hSw; (try dsimp only at hSw); go_simp; (try with_reducible rfl)
  simp only [List.setIfInBounds_toArray, List.set_cons_zero, List.set_cons_succ]
  refine plan_take (v := ?_) rfl (by rfl) ?_ ?_
  rotate_left
  · intro _ hSw; (try dsimp only at hSw); go_simp; (try with_reducible rfl)
  simp only [List.setIfInBounds_toArray, List.set_cons_zero, List.set_cons_succ]
  refine plan_take (v := ?_) rfl (by rfl) ?_ ?_
  rotate_left
  · intro _ hSw; (try dsimp only at hSw); go_simp; (try with_reducible rfl)
  simp only [List.setIfInBounds_toArray, List.set_cons_zero, List.set_cons_succ]
  refine plan_take (v := ?_) rfl (by rfl) ?_ ?_
  rotate_left
  · intro _ hSw; (try dsimp only at hSw); go_simp; (try with_reducible rfl)
  simp only [List.setIfInBounds_toArray, List.set_cons_zero, List.set_cons_succ]
  refine plan_take (v := ?_) rfl (by rfl) ?_ ?_
  rotate_left
  · intro _ hSw; (try dsimp only at hSw); have c1 := hSw.2.1; go_simp; (try with_reducible rfl)
  simp only [List.setIfInBounds_toArray, List.set_cons_zero, List.set_cons_succ]
  refine plan_take (v := ?_) rfl (by rfl) ?_ ?_
  rotate_left
  · intro _ hSw; (try dsimp only at hSw); go_simp; (try with_reducible rfl)
  simp only [List.setIfInBounds_toArray, List.set_cons_zero, List.set_cons_succ]
  refine plan_take (v := ?_) rfl (by rfl) ?_ ?_
  rotate_left
  · intro _ hSw; (try dsimp only at hSw); go_simp; (try with_reducible rfl)
  simp only [List.setIfInBounds_toArray, List.set_cons_zero, List.set_cons_succ]
  (refine hPE _ _ ?_; simp only [List.drop_succ_cons, List.drop_zero]; clear hPE PE)
  go_wp2_with fail
  go_end0
  exact ⟨⟨_, rfl⟩, by rw [HVE.out]⟩
end Go.Proofs.YtklelheejopfmaaGreat
namespace Go.Proofs.YtklelheejopfmaaGreat
open Go Go.RowKit Go.Maps
attribute [local go_sem] Oper.semAt_some
theorem set7_blk {w : World} {b : Nat} {t : TypeId} {c0 c1 c2 c3 c4 c5 c6 : Value} (h : Blk w b t #[c0, c1, c2, c3, c4, c5, c6]) (v0 v1 v2 v3 v4 v5 v6 : Value) : Blk (((((((w.setCell ⟨b, 0, none⟩ v0).setCell ⟨b, 1, none⟩ v1).setCell ⟨b, 2, none⟩ v2).setCell ⟨b, 3, none⟩ v3).setCell ⟨b, 4, none⟩ v4).setCell ⟨b, 5, none⟩ v5).setCell ⟨b, 6, none⟩ v6) b t #[v0, v1, v2, v3, v4, v5, v6] := by
  have h1 := (((((((h.set_ 0 v0).set_ 1 v1).set_ 2 v2).set_ 3 v3).set_ 4 v4).set_ 5 v5).set_ 6 v6)
  simpa only [List.setIfInBounds_toArray, List.set_cons_zero, List.set_cons_succ] using h1
theorem set7_below {B : Nat} {a w : World} {b : Nat} (h : Below B a w) (hb : B ≤ b) (v0 v1 v2 v3 v4 v5 v6 : Value) : Below B a (((((((w.setCell ⟨b, 0, none⟩ v0).setCell ⟨b, 1, none⟩ v1).setCell ⟨b, 2, none⟩ v2).setCell ⟨b, 3, none⟩ v3).setCell ⟨b, 4, none⟩ v4).setCell ⟨b, 5, none⟩ v5).setCell ⟨b, 6, none⟩ v6) :=
  (((((((h.setCell (p := ⟨b, 0, none⟩) hb v0).setCell (p := ⟨b, 1, none⟩) hb v1).setCell (p := ⟨b, 2, none⟩) hb v2).setCell (p := ⟨b, 3, none⟩) hb v3).setCell (p := ⟨b, 4, none⟩) hb v4).setCell (p := ⟨b, 5, none⟩) hb v5).setCell (p := ⟨b, 6, none⟩) hb v6)
def statF (L : List Ent) (id : Int) : Value × Int := match atL L id with
  | none => (Kn.zero.seen, 18)
  | some x => if x.1 ≠ 0 then (Kn.seen { Kn.zero with cause := x.1 }, 0) else (x.2.seen, 0)
set_option maxRecDepth 100000 in
set_option maxHeartbeats 1000000 in
theorem mod_Status (w : World) (bm bt tb lb : Nat) (c : Cfg) (B : Int) (L : List Ent) (h : MAt w bm bt tb lb c B L) (id : Int) (hw : (Lit.int .i64 id).wf = true) :
    Calls Tryz.prog 8 #[.pointer (some ⟨bm, 0, none⟩), .int .i64 id] w fun e w' => e = .returned (.tuple #[(statF L id).1, .int .i64 (statF L id).2]) ∧ Below w.heap.size w w' := by
  have hb0 : Below w.heap.size w (w.alloc (.cells #[.int .i64 0, .int .i64 0, .int .i64 0, .int .i64 0, .int .i64 0, .int .i64 0, .int .i64 0] 35)) := (Below.refl _ _).alloc (Nat.le_refl _) _
  have H := Lib.hid (h.later hb0)
  have HB0 := Lib.hid hb0
  have m5 := (h.1.alloc (.cells #[.int .i64 0, .int .i64 0, .int .i64 0, .int .i64 0, .int .i64 0, .int .i64 0, .int .i64 0] 35)).cell 5
  have CC := Lib.hid (table_Cause _ bt tb c.sess L H.out.2.1 id hw)
  have HR := Lib.hid (Blk.new w 35 #[.int .i64 0, .int .i64 0, .int .i64 0, .int .i64 0, .int .i64 0, .int .i64 0, .int .i64 0])
  have HK := Lib.hid (key_int id hw)
  unfold causeF at CC
  obtain ⟨r, hr⟩ : ∃ r, statF L id = r := ⟨_, rfl⟩
  rw [hr]
  unfold statF at hr
  clear hb0 hw
  cases ha : atL L id with
  | none =>
    rw [ha] at CC hr
    dsimp only at CC hr
    subst hr
    clear ha h
    go_enter Tryz.func8, Tryz.ntmps8
    go_wp2_with (first
      | (go_at_call 39; refine (mod_none _ _ _ _ _ _ _ _ H.out).mono ?_; rintro e w' ⟨rfl, rfl⟩)
      | (go_at_call 40; refine CC.out.mono ?_; rintro e w1 ⟨rfl, hb1⟩; have hr := HR.out.below hb1 HR.out.lt; have r0 := hr.cell 0; have r1 := hr.cell 1; have r2 := hr.cell 2; have r3 := hr.cell 3; have r4 := hr.cell 4; have r5 := hr.cell 5; have r6 := hr.cell 6; have f0 := hr.frozen 0; have f1 := hr.frozen 1; have f2 := hr.frozen 2; have f3 := hr.frozen 3; have f4 := hr.frozen 4; have f5 := hr.frozen 5; have f6 := hr.frozen 6; have HR1 := Lib.hid hr; have HB1 := Lib.hid (HB0.out.trans (hb1.mono HB0.out.size)); clear hr hb1))
    have hZ := set7_blk HR1.out (.int .i64 0) (.int .i64 0) (.int .i64 0) (.int .i64 0) (.int .i64 0) (.int .i64 0) (.int .i64 0)
    have z0 := hZ.cell 0; have z1 := hZ.cell 1; have z2 := hZ.cell 2; have z3 := hZ.cell 3; have z4 := hZ.cell 4; have z5 := hZ.cell 5; have z6 := hZ.cell 6
    refine bodyPost_ret (by simp [results, Tryz.results8, go_sem, z0, z1, z2, z3, z4, z5, z6]; try rfl) rfl ?_
    exact ⟨rfl, set7_below HB1.out (Nat.le_refl _) _ _ _ _ _ _ _⟩
  | some x =>
    obtain ⟨d, k⟩ := x
    rw [ha] at CC hr
    dsimp only at CC hr
    by_cases hd : d = 0
    · subst hd
      rw [if_neg (by simp)] at hr
      subst hr
      obtain ⟨ca, en, cz, q, l, f, fr, p, g⟩ := k
      have HL := Lib.hid (fun v ps => look_L ha (v := v) (ps := ps))
      have hfd : ∀ W : World, (Instr.field 72 (.agg #[.int .i64 ca, .bool en, .int .i64 cz, .int .i64 q, .int .i64 l, .int .i64 f, .int .i64 fr, .int .i64 p, .int .i64 g]) 2).run Tryz.prog W = .ok (.agg #[.int .i64 cz, .int .i64 q, .int .i64 l, .int .i64 f, .int .i64 fr, .int .i64 p, .int .i64 g]) W := fun _ => by kernel_rfl
      clear ha h
      go_enter Tryz.func8, Tryz.ntmps8
      go_wp2_with (first
        | (go_at_call 39; refine (mod_none _ _ _ _ _ _ _ _ H.out).mono ?_; rintro e w' ⟨rfl, rfl⟩)
        | (go_at_call 40; refine CC.out.mono ?_; rintro e w1 ⟨rfl, hb1⟩; have hr := HR.out.below hb1 HR.out.lt; have r0 := hr.cell 0; have r1 := hr.cell 1; have r2 := hr.cell 2; have r3 := hr.cell 3; have r4 := hr.cell 4; have r5 := hr.cell 5; have r6 := hr.cell 6; have f0 := hr.frozen 0; have f1 := hr.frozen 1; have f2 := hr.frozen 2; have f3 := hr.frozen 3; have f4 := hr.frozen 4; have f5 := hr.frozen 5; have f6 := hr.frozen 6; have HR1 := Lib.hid hr; have HB1 := Lib.hid (HB0.out.trans (hb1.mono HB0.out.size)); have H1 := Lib.hid (H.out.later hb1); have y6 := H1.out.1.cell 6; obtain ⟨v, ps, hrun, hv⟩ := H1.out.2.2.1.lookup (t := 54) keyed_int Tryz.underlying54 (z := Kn.zero.val) (Tryz.zeroValue72 _) (zd := .held Kn.zero.val) (zp := []) rfl HK.out; obtain rfl := HL.out _ _ hv; clear hv; clear hr hb1))
      have hZ := set7_blk HR1.out (.int .i64 cz) (.int .i64 q) (.int .i64 l) (.int .i64 f) (.int .i64 fr) (.int .i64 p) (.int .i64 g)
      have z0 := hZ.cell 0; have z1 := hZ.cell 1; have z2 := hZ.cell 2; have z3 := hZ.cell 3; have z4 := hZ.cell 4; have z5 := hZ.cell 5; have z6 := hZ.cell 6
      refine bodyPost_ret (by simp [results, Tryz.results8, go_sem, z0, z1, z2, z3, z4, z5, z6]; try rfl) rfl ?_
      exact ⟨rfl, set7_below HB1.out (Nat.le_refl _) _ _ _ _ _ _ _⟩
    · rw [if_pos hd] at hr
      subst hr
      have hdb : (d != 0) = true := bne_iff_ne.2 hd
      clear ha h hd
      go_enter Tryz.func8, Tryz.ntmps8
      go_wp2_with (first
        | (go_at_call 39; refine (mod_none _ _ _ _ _ _ _ _ H.out).mono ?_; rintro e w' ⟨rfl, rfl⟩)
        | (go_at_call 40; refine CC.out.mono ?_; rintro e w1 ⟨rfl, hb1⟩; have hr := HR.out.below hb1 HR.out.lt; have r0 := hr.cell 0; have r1 := hr.cell 1; have r2 := hr.cell 2; have r3 := hr.cell 3; have r4 := hr.cell 4; have r5 := hr.cell 5; have r6 := hr.cell 6; have f0 := hr.frozen 0; have f1 := hr.frozen 1; have f2 := hr.frozen 2; have f3 := hr.frozen 3; have f4 := hr.frozen 4; have f5 := hr.frozen 5; have f6 := hr.frozen 6; have HR1 := Lib.hid hr; have HB1 := Lib.hid (HB0.out.trans (hb1.mono HB0.out.size)); clear hr hb1))
      have hZ := set7_blk HR1.out (.int .i64 d) (.int .i64 0) (.int .i64 0) (.int .i64 0) (.int .i64 0) (.int .i64 0) (.int .i64 0)
      have z0 := hZ.cell 0; have z1 := hZ.cell 1; have z2 := hZ.cell 2; have z3 := hZ.cell 3; have z4 := hZ.cell 4; have z5 := hZ.cell 5; have z6 := hZ.cell 6
      refine bodyPost_ret (by simp [results, Tryz.results8, go_sem, z0, z1, z2, z3, z4, z5, z6]; try rfl) rfl ?_
      exact ⟨rfl, set7_below HB1.out (Nat.le_refl _) _ _ _ _ _ _ _⟩
end Go.Proofs.YtklelheejopfmaaGreat
