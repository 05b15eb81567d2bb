/- PrR29, PrM29 -/
import Derived.Test.YtklelheejopfmaaGreatK37
namespace Go.Proofs.YtklelheejopfmaaGreat
open Go Go.RowKit Go.Maps
attribute [local go_sem] Oper.semAt_some
/-- who is driven out, and why not. -/
def pressF (c : Cfg) (L : List Ent) (V : List Hd) (want : Int) : List Int × Int × List Ent :=
  if 0 ≤ want ∧ want ≤ c.frames then (planOut V (max (c.frames - allF L) 0) want, 0, evictL L (planOut V (max (c.frames - allF L) 0) want)) else ([], 3, L)
theorem IRow.nil (w : World) (base : Nat) : IRow w base (.slice none 0 0) [] := World.ownsRow_nil _ _ _ _
theorem IRow.mono {w : World} {base base' : Nat} {v : Value} {xs : List Int} (h : IRow w base' v xs) (hb : base ≤ base') : IRow w base v xs := own_mono h hb
set_option maxRecDepth 100000 in
set_option maxHeartbeats 4000000 in
theorem ref29_Press (w : World) (rm rt base : Nat) (c : Cfg) (L : List Ent) (h : RAt w rm rt base c L) {B : Int} (hk : ∀ x ∈ L, KnOk c B x.2) (hc : CfgOk c) (hs : ((liveK L).length : Int) ≤ c.sess) (V : List Hd) (hV : Vict V (allH L)) (want : Int) :
    Calls Tryz.prog 38 #[.pointer (some ⟨rm, 0, none⟩), .int .i64 want] w fun e w' => ∃ v, e = .returned (.tuple #[v, .int .i64 (pressF c L V want).2.1]) ∧ IRow w' w.heap.size v (pressF c L V want).1 ∧ RAt w' rm rt base c (pressF c L V want).2.2 ∧ RFq T29 base w w' := by
  have H := Lib.hid h
  have c1 : w.cell? ⟨rm, 1, none⟩ = some (.int .i64 c.frames) := by obtain ⟨v, h1, _⟩ := h; exact h1.cell 1
  have c5 : w.cell? ⟨rm, 5, none⟩ = some (.pointer (some ⟨rt, 0, none⟩)) := by obtain ⟨v, h1, _⟩ := h; exact h1.cell 5
  have CW := Lib.hid (ref29_within want 0 c.frames w)
  have CL : Hid (Calls Tryz.prog 12 #[.pointer (some ⟨rt, 0, none⟩)] w fun e w' => ∃ v, e = .returned v ∧ IRow w' w.heap.size v (liveK L) ∧ Below w.heap.size w w') := Lib.hid (by obtain ⟨v, _, _, h3, _⟩ := h; exact ref26_Live _ rt base c.sess L h3)
  by_cases hw : 0 ≤ want ∧ want ≤ c.frames
  rotate_left
  · have hF : pressF c L V want = ([], 3, L) := by unfold pressF; rw [if_neg hw]
    rw [hF]
    rw [decide_eq_false hw] at CW
    have HN := Lib.hid (IRow.nil w w.heap.size)
    clear h hk hc hs hV hw hF
    go_enter Tryz.func38, Tryz.ntmps38
    go_wp2_with (go_at_call 18; refine CW.out.mono ?_; rintro e w' ⟨rfl, rfl⟩)
    go_returns
    exact ⟨_, rfl, HN.out, H.out, RFq.refl _ _⟩
  have hF : pressF c L V want = (planOut V (max (c.frames - allF L) 0) want, 0, evictL L (planOut V (max (c.frames - allF L) 0) want)) := by unfold pressF; rw [if_pos hw]
  rw [hF]
  rw [decide_eq_true hw] at CW
  have hFB := allF_bounds hk hc hs
  have hOK := allH_ok hk hc hs
  have hll : L.length ≤ 2147483647 := by obtain ⟨_, _, _, ⟨_, _, _, t3, _⟩, _⟩ := h; exact t3
  obtain ⟨n, hn⟩ : ∃ n, (liveK L).length = n := ⟨_, rfl⟩
  have hn64 : n ≤ 64 := by have := hc.2.1; omega
  obtain ⟨fr, hfr⟩ : ∃ fr, max (c.frames - allF L) 0 = fr := ⟨_, rfl⟩
  have hfr2 : max 0 (c.frames - allF L) = fr := by omega
  have hfrb : 0 ≤ fr ∧ fr ≤ 10000 := by have := hc.2.2.2.1; omega
  obtain ⟨outs, houts⟩ : ∃ outs, planOut V fr want = outs := ⟨_, rfl⟩
  have hPL := plan_live hV fr want
  rw [houts] at hPL
  rw [hfr, houts]
  have CF := Lib.hid (fun W (hW : RAt W rm rt base c L) => ref29_Free W rm rt base c L hW hk hc)
  have CP : Hid (∀ (W : World) (A : Option Addr) (cc : Nat), Sl W A (rowC hdC (allH L)) → Calls Tryz.prog 59 #[.slice A n cc, .int .i64 fr, .int .i64 want] W fun e w' => ∃ v f, e = .returned (.tuple #[v, .int .i64 f, .int .i64 0]) ∧ IRow w' W.heap.size v outs ∧ Below W.heap.size W w') := Lib.hid fun W A cc hS => by
    have h1 := ref28_Plan W A (allH L) cc hS hOK V hV fr want hfrb ⟨hw.1, by have := hc.2.2.2.1; omega⟩
    have h2 : (allH L).length = n := by rw [← hn]; simp [allH]
    rw [h2] at h1
    unfold PlanPost at h1
    rw [houts] at h1
    exact h1
  have HN := Lib.hid hn
  have HPL := Lib.hid hPL
  have HKN := Lib.hid hk
  have HN64 := Lib.hid hn64
  have HLL := Lib.hid hll
  have HMX := Lib.hid hfr2
  have HB0 := Lib.hid (Below.refl w.heap.size w)
  have HALL := Lib.hid (show ∀ i, i < n → ∃ (k : Kn) (q : Nat), (liveK L)[i]? = some ((q : Int) + 1) ∧ L[q]? = some (0, k) ∧ q < L.length ∧ frOf L ((q : Int) + 1) = k.frames from fun i hi => by
    have hil : i < (liveK L).length := by omega
    obtain ⟨k, hat⟩ := live_at (List.getElem_mem hil)
    obtain ⟨q, e, _, hq, hL⟩ := ix_of hat
    refine ⟨k, q, by rw [List.getElem?_eq_getElem hil, e], hL, hq, ?_⟩
    unfold frOf
    rw [← e, hat]; rfl)
  clear h hk hc hs hV hw hF hFB hOK hll hn hn64 hfr hfr2 hfrb houts hPL
  go_enter Tryz.func38, Tryz.ntmps38
  go_wp2_with (first
    | (go_at_call 18; refine CW.out.mono ?_; rintro e w' ⟨rfl, rfl⟩)
    | (go_at_call 12; refine CL.out.mono ?_; rintro e w1 ⟨v, rfl, ho1, hb1⟩; obtain ⟨A1, cp1, rfl, hsl1⟩ := ho1.shape; rw [HN.out]; have HR1 := Lib.hid (H.out.later hb1); have HB1 := Lib.hid hb1; have HS1 := Lib.hid hsl1; clear ho1 hb1 hsl1))
  have HBW := Lib.hid (Below.refl w1.heap.size w1)
  have HE0 := Lib.hid (show HRow w1 w1.heap.size (.slice none 0 0) (((liveK L).take 0).map fun id => (id, frOf L id)) from World.ownsRow_nil _ _ _ _)
  go_loopw [6, 8] (fun v6 v8 wr => ∃ i : Nat, v8 = .int .i64 (i : Int) ∧ i ≤ n ∧ Hid (Below w1.heap.size w1 wr) ∧ Hid (HRow wr w1.heap.size v6 (((liveK L).take i).map fun id => (id, frOf L id)))) (fun _ v8 _ => n - (ixOf v8).toNat)
  case atStart => exact ⟨0, rfl, Nat.zero_le _, HBW, HE0⟩
  case round =>
    obtain ⟨i, rfl, hi, HI, HH⟩ := hrel
    obtain ⟨es, hes⟩ : ∃ es, (((liveK L).take i).map fun id => (id, frOf L id)) = es := ⟨_, rfl⟩
    have hel : es.length = i := by rw [← hes]; simp; have := HN.out; omega
    rw [hes] at HH
    have hh := HH.out
    unfold HRow at hh
    rw [hel] at hh
    obtain ⟨A6, c6, rfl⟩ := own_any hh
    by_cases hlt : i < n
    · have hli : (i : Int) < (n : Int) := by omega
      have hi0 : ¬ (i : Int) < 0 := by omega
      obtain ⟨i1, hi1⟩ : ∃ i1, i + 1 = i1 := ⟨_, rfl⟩
      have hw1 : wrap64 ((i : Int) + 1) = (i1 : Int) := by have := HN64.out; rw [wrap64_id (by omega) (by omega)]; omega
      have HI1 := Lib.hid hi1
      have HLT := Lib.hid hlt
      obtain ⟨k, q, hid, hL, hq, hfk⟩ := HALL.out i hlt
      have q0 : ¬ (q : Int) < 0 := by omega
      have q1 : (q : Int) < (L.length : Int) := by omega
      have qw : IntKind.i64.wrap (q : Int) = (q : Int) := by have := HLL.out; rw [IntKind.wrap_i64]; omega
      have hnx : (((liveK L).take i1).map fun id => (id, frOf L id)) = es ++ [((q : Int) + 1, k.frames)] := by
        obtain ⟨hil, hx⟩ := List.getElem?_eq_some_iff.1 hid
        rw [← hi1, List.take_succ_eq_append_getElem hil, List.map_append, hes, hx]
        simp [hfk]
      obtain ⟨ca, en, cz, qq, l, f, fk, p, gn⟩ := k
      dsimp only at hnx
      have HNX := Lib.hid hnx
      have HL := Lib.hid hL
      have HID := Lib.hid hid
      obtain ⟨ad, rfl, ha1, ha2⟩ := HS1.out.int i (by have := HN.out; omega)
      have HCI : Hid (∀ W, Sl W (some ad) ((liveK L).map intV) → W.cell? (ad.add i) = some (.int .i64 ((q : Int) + 1))) := Lib.hid fun W hW => by
        obtain ⟨hil, hx⟩ := List.getElem?_eq_some_iff.1 HID.out
        obtain ⟨ad', e, _, c0⟩ := hW.int i hil
        cases e
        rw [hx] at c0
        exact c0
      have HSS := Lib.hid (show Sl wr.drew (some ad) ((liveK L).map intV) from HS1.out.below HI.out.drew)
      have HRR := Lib.hid (show RAt wr.drew rm rt base c L from HR1.out.later HI.out.drew)
      have HI2 := Lib.hid (show Below w1.heap.size w1 wr.drew from HI.out.drew)
      obtain ⟨g, cap, hg6, _⟩ := HRR.out.cells HL.out
      have HCL : Hid (∀ W, W.cell? ⟨rm, 6, none⟩ = some (.slice (some ⟨g, 0, none⟩) L.length cap) → RAt W rm rt base c L → W.cell? ⟨g, q * 9 + 6, none⟩ = some (.int .i64 fk)) := Lib.hid fun W h6 hW => by
        obtain ⟨g', cap', h6', _, hcell, _⟩ := hW.cells HL.out
        rw [h6] at h6'
        simp at h6'
        obtain ⟨rfl, rfl⟩ := h6'
        exact hcell 6 (by decide)
      have HG6 := Lib.hid hg6
      have HH2 := Lib.hid (show wr.drew.ownsRow w1.heap.size 93 2 (.slice A6 i c6) i (rowC hdC es) from own_below hh (Below.refl _ _).drew (Nat.le_refl _))
      have HEL := Lib.hid hel
      have HH0 := Lib.hid hh
      clear hi hlt hi1 hid hL hq hfk hnx ha1 ha2 hg6 hh hel hes HH
      have HS2 := Lib.hid (show Sl wr.drew (some ad) ((liveK L).map intV) ∧ RAt wr.drew rm rt base c L ∧ wr.drew.cell? ⟨rm, 6, none⟩ = some (.slice (some ⟨g, 0, none⟩) L.length cap) from ⟨HSS.out, HRR.out, HG6.out⟩)
      go_wp2_with fail
      refine wp_region_plan2 (fun W => Sl W (some ad) ((liveK L).map intV) ∧ RAt W rm rt base c L ∧ W.cell? ⟨rm, 6, none⟩ = some (.slice (some ⟨g, 0, none⟩) L.length cap)) 20 [(0, true), (1, true), (2, true), (3, true), (4, true), (5, true), (6, true), (7, true), (8, true), (9, true), (10, true), (11, true), (12, true), (13, true), (14, true), (15, true), (16, true), (17, true), (18, true), (19, false)] (by kernel_rfl) (by kernel_rfl) (fun _ _ d _ _ h => by cases d <;> exact h) (by decide) (by simp only [List.map_cons, List.map_nil, Array.getD_eq_getD_getElem?, List.getElem?_toArray, List.getElem?_cons_zero, List.getElem?_cons_succ, Option.getD_some]; rfl) (by simp only [List.map_cons, List.map_nil]; rfl) (HS2.out) (fun PE hPE => ?_)
      refine plan_take (v := ?_) rfl (by rfl) ?_ ?_
      rotate_left
      · intro _ hSw; (try dsimp only at hSw); go_simp; (try with_reducible rfl)
      simp only [List.setIfInBounds_toArray, List.set_cons_zero, List.set_cons_succ]
      refine plan_take (v := ?_) rfl (by rfl) ?_ ?_
      rotate_left
      · intro _ hSw; (try dsimp only at hSw); go_simp; (try with_reducible rfl)
      simp only [List.setIfInBounds_toArray, List.set_cons_zero, List.set_cons_succ]
      refine plan_take (v := ?_) rfl (by rfl) ?_ ?_
      rotate_left
      · intro _ hSw; (try dsimp only at hSw); go_simp; (try with_reducible rfl)
      simp only [List.setIfInBounds_toArray, List.set_cons_zero, List.set_cons_succ]
      refine plan_take (v := ?_) rfl (by rfl) ?_ ?_
      rotate_left
      · intro _ hSw; (try dsimp only at hSw); go_simp; (try with_reducible rfl)
      simp only [List.setIfInBounds_toArray, List.set_cons_zero, List.set_cons_succ]
      refine plan_take (v := ?_) rfl (by rfl) ?_ ?_
      rotate_left
      · intro _ hSw; (try dsimp only at hSw); have x0 := HCI.out _ hSw.1; go_simp; (try with_reducible rfl)
      simp only [List.setIfInBounds_toArray, List.set_cons_zero, List.set_cons_succ]
      refine plan_take (v := ?_) rfl (by rfl) ?_ ?_
      rotate_left
      · intro _ hSw; (try dsimp only at hSw); go_simp; (try with_reducible rfl)
      simp only [List.setIfInBounds_toArray, List.set_cons_zero, List.set_cons_succ]
      refine plan_take (v := ?_) rfl (by rfl) ?_ ?_
      rotate_left
      · intro _ hSw; (try dsimp only at hSw); go_simp; (try with_reducible rfl)
      simp only [List.setIfInBounds_toArray, List.set_cons_zero, List.set_cons_succ]
      refine plan_take (v := ?_) rfl (by rfl) ?_ ?_
      rotate_left
      · intro _ hSw; (try dsimp only at hSw); go_simp; (try with_reducible rfl)
      simp only [List.setIfInBounds_toArray, List.set_cons_zero, List.set_cons_succ]
      refine plan_take (v := ?_) rfl (by rfl) ?_ ?_
      rotate_left
      · intro _ hSw; (try dsimp only at hSw); have x6 := hSw.2.2; go_simp; (try with_reducible rfl)
      simp only [List.setIfInBounds_toArray, List.set_cons_zero, List.set_cons_succ]
      refine plan_take (v := ?_) rfl (by rfl) ?_ ?_
      rotate_left
      · intro _ hSw; (try dsimp only at hSw); go_simp; (try with_reducible rfl)
      simp only [List.setIfInBounds_toArray, List.set_cons_zero, List.set_cons_succ]
      refine plan_take (v := ?_) rfl (by rfl) ?_ ?_
      rotate_left
      · intro _ hSw; (try dsimp only at hSw); go_simp; (try with_reducible rfl)
      simp only [List.setIfInBounds_toArray, List.set_cons_zero, List.set_cons_succ]
      refine plan_take (v := ?_) rfl (by rfl) ?_ ?_
      rotate_left
      · intro _ hSw; (try dsimp only at hSw); go_simp; (try with_reducible rfl)
      simp only [List.setIfInBounds_toArray, List.set_cons_zero, List.set_cons_succ]
      refine plan_take (v := ?_) rfl (by rfl) ?_ ?_
      rotate_left
      · intro _ hSw; (try dsimp only at hSw); have x0 := HCI.out _ hSw.1; go_simp; (try with_reducible rfl)
      simp only [List.setIfInBounds_toArray, List.set_cons_zero, List.set_cons_succ]
      refine plan_take (v := ?_) rfl (by rfl) ?_ ?_
      rotate_left
      · intro _ hSw; (try dsimp only at hSw); go_simp; (try with_reducible rfl)
      simp only [List.setIfInBounds_toArray, List.set_cons_zero, List.set_cons_succ]
      refine plan_take (v := ?_) rfl (by rfl) ?_ ?_
      rotate_left
      · intro _ hSw; (try dsimp only at hSw); go_simp; (try with_reducible rfl)
      simp only [List.setIfInBounds_toArray, List.set_cons_zero, List.set_cons_succ]
      refine plan_take (v := ?_) rfl (by rfl) ?_ ?_
      rotate_left
      · intro _ hSw; (try dsimp only at hSw); go_simp; (try with_reducible rfl)
      simp only [List.setIfInBounds_toArray, List.set_cons_zero, List.set_cons_succ]
      refine plan_take (v := ?_) rfl (by rfl) ?_ ?_
      rotate_left
      · intro _ hSw; (try dsimp only at hSw); go_simp; (try with_reducible rfl)
      simp only [List.setIfInBounds_toArray, List.set_cons_zero, List.set_cons_succ]
      refine plan_take (v := ?_) rfl (by rfl) ?_ ?_
      rotate_left
      · intro _ hSw; (try dsimp only at hSw); have x0 := HCL.out _ hSw.2.2 hSw.2.1; go_simp; (try with_reducible rfl)
      simp only [List.setIfInBounds_toArray, List.set_cons_zero, List.set_cons_succ]
      refine plan_take (v := ?_) rfl (by rfl) ?_ ?_
      rotate_left
      · intro _ hSw; (try dsimp only at hSw); go_simp; (try with_reducible rfl)
      simp only [List.setIfInBounds_toArray, List.set_cons_zero, List.set_cons_succ]
      refine plan_value (v := ?_) (w' := ?_) rfl (by rfl) ?_ ?_ ?_
      rotate_left 2
      · go_simp; (try (constructor <;> with_reducible rfl))
      · have hb : Below wr.drew.heap.size wr.drew (wr.drew.alloc (.cells #[.int .i64 ((q : Int) + 1), .int .i64 fk] 93)) := (Below.refl _ _).alloc (Nat.le_refl _) _
        refine ⟨HSS.out.below hb, HRR.out.later hb, ?_⟩
        exact (hb.cell (by obtain ⟨v, hx, _⟩ := HRR.out; exact hx.lt)).trans HG6.out
      (refine hPE _ _ ?_; simp only [List.drop_succ_cons, List.drop_zero]; clear hPE PE)
      have hbY : Below wr.heap.size wr (wr.alloc (.cells #[.int .i64 ((q : Int) + 1), .int .i64 fk] 93)).drew := ((Below.refl _ _).alloc (Nat.le_refl _) _).drew
      have HHY := Lib.hid (show (wr.alloc (.cells #[.int .i64 ((q : Int) + 1), .int .i64 fk] 93)).drew.ownsRow w1.heap.size 93 2 (.slice A6 i c6) i (rowC hdC es) from own_below HH0.out hbY (Nat.le_refl _))
      have HBY := Lib.hid (show Blk (wr.alloc (.cells #[.int .i64 ((q : Int) + 1), .int .i64 fk] 93)).drew wr.heap.size 93 #[.int .i64 ((q : Int) + 1), .int .i64 fk] from (Blk.new wr 93 #[.int .i64 ((q : Int) + 1), .int .i64 fk]).drew')
      have HWY := Lib.hid (show Below w1.heap.size w1 (wr.alloc (.cells #[.int .i64 ((q : Int) + 1), .int .i64 fk] 93)).drew from HI.out.trans (hbY.mono HI.out.size))
      clear hbY
      generalize (wr.alloc (.cells #[.int .i64 ((q : Int) + 1), .int .i64 fk] 93)).drew = Y at HHY HBY HWY ⊢
      go_wp2_with (at_builtin; refine wpList_app etHolds rfl rfl rfl HHY.out rfl (m := 1) (news := [.int .i64 ((q : Int) + 1), .int .i64 fk]) rfl (HBY.out.sl 0) (by simp [Value.oneCell']) (by have := HLT.out; have := HN64.out; omega) HWY.out.size ?_; intro v5 w5 ho5 hg5 hor5; have HR5 := Lib.hid (show HRow w5 w1.heap.size v5 (es ++ [((q : Int) + 1, fk)]) from HRow.app (ys := [((q : Int) + 1, fk)]) ho5 (by rw [HEL.out]; rfl)); have HB5 := Lib.hid (below_app HWY.out HHY.out hg5 HWY.out.size (Nat.le_refl _)); clear ho5 hg5 hor5)
      go_roundw
      case rel => exact ⟨i1, (by first | exact congrArg (Value.int .i64) hw1 | exact congrArg (Value.int .i64) (by have := HI1.out; omega)), by have := HLT.out; have := HI1.out; omega, HB5, Lib.hid (by rw [HNX.out]; exact HR5.out)⟩
      case measure => first | exact meas_up hw1 HI1.out HLT.out | exact meas_up (x := (i : Int) + 1) (by have := HI1.out; omega) HI1.out HLT.out
    · have hli : ¬ (i : Int) < (n : Int) := by omega
      have hin : i = n := by omega
      rw [hin] at hh
      have hall : es = allH L := by rw [← hes, List.take_of_length_le (by have := HN.out; omega)]; rfl
      rw [hall] at hh
      have HRA := Lib.hid (HR1.out.later HI.out)
      have HSA := Lib.hid (row_sl hh)
      have HBI := Lib.hid (HB1.out.trans (HI.out.mono HB1.out.size))
      have hmx := HMX.out
      clear hi hlt hh hel hes hall HH HI
      go_wp2_with (first
        | (go_at_call 14; refine (CF.out _ HRA.out).mono ?_; rintro e w6 ⟨rfl, hb6⟩; have HB6 := Lib.hid hb6; clear hb6)
        | (go_at_call 59; refine (CP.out _ A6 c6 (HSA.out.below HB6.out)).mono ?_; rintro e w7 ⟨v7, f7, rfl, hr7, hb7⟩; obtain ⟨A7, c7, rfl, hsl7⟩ := hr7.shape; have HB7 := Lib.hid (HBI.out.trans ((HB6.out.trans (hb7.mono HB6.out.size)).mono HBI.out.size)); have HR7 := Lib.hid (HRA.out.later (HB6.out.trans (hb7.mono HB6.out.size))); have HO7 := Lib.hid (hr7.mono (show w.heap.size ≤ w6.heap.size by have := HBI.out.size; have := HB6.out.size; omega)); have HS7 := Lib.hid hsl7; clear hr7 hb7 hsl7))
      have HF7 := Lib.hid (RFq.refl (T := T29) base w7)
      obtain ⟨m, hm⟩ : ∃ m, outs.length = m := ⟨_, rfl⟩
      rw [hm] at HO7 ⊢
      have HM := Lib.hid hm
      have HM64 := Lib.hid (show m ≤ 64 by have h1 := HPL.out.2.2; have h2 := HN.out; have h3 := HN64.out; omega)
      clear hm
      go_loopw [12] (fun v12 wr => ∃ j : Nat, v12 = .int .i64 (j : Int) ∧ j ≤ m ∧ Hid (RAt wr rm rt base c (evictL L (outs.take j))) ∧ Hid (RFq T29 base w7 wr)) (fun v12 _ => m - (ixOf v12).toNat)
      case atStart => exact ⟨0, rfl, Nat.zero_le _, HR7, HF7⟩
      case round =>
        obtain ⟨j, rfl, hj, HR, HF⟩ := hrel
        have HSJ := Lib.hid (show Sl wr A7 (outs.map intV) from row_sl (own_same (show w7.ownsRow w.heap.size 3 1 (.slice A7 outs.length c7) outs.length (outs.map intV) by rw [HM.out]; have h1 := HO7.out; unfold IRow at h1; rw [HM.out] at h1; exact h1) (fun g cs _ hb => HF.out.blk hb (by decide))))
        by_cases hlt : j < m
        · have hlj : (j : Int) < (m : Int) := by omega
          have hj0 : ¬ (j : Int) < 0 := by omega
          obtain ⟨j1, hj1⟩ : ∃ j1, j + 1 = j1 := ⟨_, rfl⟩
          have hw1 : wrap64 ((j : Int) + 1) = (j1 : Int) := by have := HM64.out; rw [wrap64_id (by omega) (by omega)]; omega
          have HJ1 := Lib.hid hj1
          have HLT := Lib.hid hlt
          have hjl : j < outs.length := by have := HM.out; omega
          obtain ⟨id, hid⟩ : ∃ id, outs[j] = id := ⟨_, rfl⟩
          obtain ⟨k, hat⟩ := live_at (HPL.out.2.1 id (by rw [← hid]; exact List.getElem_mem _))
          have hnot : id ∉ outs.take j := by
            intro hmem
            have h1 := HPL.out.1
            rw [← List.take_append_drop j outs, List.nodup_append] at h1
            refine h1.2.2 id hmem id ?_ rfl
            rw [List.drop_eq_getElem_cons hjl, hid]
            simp
          have hat2 : atL (evictL L (outs.take j)) id = some (0, k) := by rw [evictL_at hnot, hat]
          have hnx : evictL L (outs.take j1) = (evictL L (outs.take j)).set (id - 1).toNat (22, k) := by rw [← hj1, evictL_take hjl, hid, evict1_live hat2]
          have HNX := Lib.hid hnx
          obtain ⟨ad, rfl, ha1, ha2⟩ := HSJ.out.int j hjl
          have HCI : Hid (∀ W, Sl W (some ad) (outs.map intV) → W.cell? (ad.add j) = some (.int .i64 id)) := Lib.hid fun W hW => by
            obtain ⟨ad', e, _, c0⟩ := hW.int j (by have := HM.out; have := HLT.out; omega)
            cases e
            rw [hid] at c0
            exact c0
          have CE := Lib.hid (fun W (hW : RAt W rm rt base c (evictL L (outs.take j))) => ref29_ends_at W rm rt base c _ hW id 22 (by decide) k hat2)
          have HRD := Lib.hid (show RAt wr.drew rm rt base c (evictL L (outs.take j)) from HR.out.later (Below.refl _ _).drew)
          have HS3 := Lib.hid (show Sl wr.drew (some ad) (outs.map intV) ∧ wr.drew.cell? ⟨rm, 5, none⟩ = some (.pointer (some ⟨rt, 0, none⟩)) from ⟨HSJ.out.below (Below.refl _ _).drew, by obtain ⟨v, hx, _⟩ := HRD.out; exact hx.cell 5⟩)
          clear hj hlt hj1 hjl hid hat hnot hat2 hnx ha1 ha2
          go_wp2_with fail
          refine wp_region_plan2 (fun W => Sl W (some ad) (outs.map intV) ∧ W.cell? ⟨rm, 5, none⟩ = some (.pointer (some ⟨rt, 0, none⟩))) 8 [(0, true), (1, true), (2, true), (3, true), (4, true), (5, true), (6, true), (7, true)] (by kernel_rfl) (by kernel_rfl) (fun _ _ d _ _ h => by cases d <;> exact h) (by decide) (by simp only [List.map_cons, List.map_nil, Array.getD_eq_getD_getElem?, List.getElem?_toArray, List.getElem?_cons_zero, List.getElem?_cons_succ, Option.getD_some]; rfl) (by simp only [List.map_cons, List.map_nil]; rfl) (HS3.out) (fun PE hPE => ?_)
          refine plan_take (v := ?_) rfl (by rfl) ?_ ?_
          rotate_left
          · intro _ hSw; (try dsimp only at hSw); go_simp; (try with_reducible rfl)
          simp only [List.setIfInBounds_toArray, List.set_cons_zero, List.set_cons_succ]
          refine plan_take (v := ?_) rfl (by rfl) ?_ ?_
          rotate_left
          · intro _ hSw; (try dsimp only at hSw); go_simp; (try with_reducible rfl)
          simp only [List.setIfInBounds_toArray, List.set_cons_zero, List.set_cons_succ]
          refine plan_take (v := ?_) rfl (by rfl) ?_ ?_
          rotate_left
          · intro _ hSw; (try dsimp only at hSw); go_simp; (try with_reducible rfl)
          simp only [List.setIfInBounds_toArray, List.set_cons_zero, List.set_cons_succ]
          refine plan_take (v := ?_) rfl (by rfl) ?_ ?_
          rotate_left
          · intro _ hSw; (try dsimp only at hSw); have x5 := hSw.2; go_simp; (try with_reducible rfl)
          simp only [List.setIfInBounds_toArray, List.set_cons_zero, List.set_cons_succ]
          refine plan_take (v := ?_) rfl (by rfl) ?_ ?_
          rotate_left
          · intro _ hSw; (try dsimp only at hSw); go_simp; (try with_reducible rfl)
          simp only [List.setIfInBounds_toArray, List.set_cons_zero, List.set_cons_succ]
          refine plan_take (v := ?_) rfl (by rfl) ?_ ?_
          rotate_left
          · intro _ hSw; (try dsimp only at hSw); go_simp; (try with_reducible rfl)
          simp only [List.setIfInBounds_toArray, List.set_cons_zero, List.set_cons_succ]
          refine plan_take (v := ?_) rfl (by rfl) ?_ ?_
          rotate_left
          · intro _ hSw; (try dsimp only at hSw); go_simp; (try with_reducible rfl)
          simp only [List.setIfInBounds_toArray, List.set_cons_zero, List.set_cons_succ]
          refine plan_take (v := ?_) rfl (by rfl) ?_ ?_
          rotate_left
          · intro _ hSw; (try dsimp only at hSw); have x0 := HCI.out _ hSw.1; go_simp; (try with_reducible rfl)
          simp only [List.setIfInBounds_toArray, List.set_cons_zero, List.set_cons_succ]
          (refine hPE _ _ ?_; simp only [List.drop_succ_cons, List.drop_zero]; clear hPE PE)
          go_wp2_with (go_at_call 55; refine (CE.out _ HRD.out).mono ?_; rintro e w8 ⟨rfl, hr8, hf8⟩; have HR8 := Lib.hid hr8; have HF8 := Lib.hid (HF.out.trans ((RFq.of_below (Below.refl _ _).drew).trans (hf8.to (fun t => T26.to29)))); clear hr8 hf8)
          go_roundw
          case rel => exact ⟨j1, (by first | exact congrArg (Value.int .i64) hw1 | exact congrArg (Value.int .i64) (by have := HJ1.out; omega)), by have := HLT.out; have := HJ1.out; omega, Lib.hid (by rw [HNX.out]; exact HR8.out), HF8⟩
          case measure => first | exact meas_up hw1 HJ1.out HLT.out | exact meas_up (x := (j : Int) + 1) (by have := HJ1.out; omega) HJ1.out HLT.out
        · have hlj : ¬ (j : Int) < (m : Int) := by omega
          have HE := Lib.hid (show evictL L (outs.take j) = evictL L outs by rw [List.take_of_length_le (by have := HM.out; omega)])
          clear hj hlt
          go_wp2_with fail
          go_returns
          refine ⟨_, rfl, ?_, by rw [← HE.out]; exact HR.out, (RFq.of_below HB7.out).trans HF.out⟩
          have h1 := HO7.out
          unfold IRow at h1 ⊢
          rw [HM.out] at h1 ⊢
          exact own_same h1 (fun g cs _ hb => HF.out.blk hb (by decide))
end Go.Proofs.YtklelheejopfmaaGreat
namespace Go.Proofs.YtklelheejopfmaaGreat
open Go Go.RowKit Go.Maps
attribute [local go_sem] Oper.semAt_some
theorem Only.irow {bs : List Nat} {w w' : World} (h : Only bs w w') {base : Nat} {v : Value} {xs : List Int} (hr : IRow w base v xs) (hn : ∀ g cs, Blk w g 3 cs → g ∉ bs) : IRow w' base v xs := own_same hr (fun g cs _ hb => h.blk hb (hn g cs hb))
theorem row_lt {w : World} {b e s n n' c : Nat} {A : Option Addr} {xs : List Value} (h : w.ownsRow b e s (.slice A n c) n' xs) (ad : Addr) (he : A = some ad) : ad.block < w.heap.size := by
  subst he
  rcases h.2 with ⟨h1, _⟩ | ⟨g, cap, cur, h1, hb, hh, _⟩
  · cases h1
  · cases h1
    rcases Nat.lt_or_ge g w.heap.size with hlt | hge
    · exact hlt
    · rw [Array.getElem?_eq_none hge] at hh; cases hh
set_option maxRecDepth 100000 in
set_option maxHeartbeats 4000000 in
theorem mod_Press (w : World) (bm bt tb lb : Nat) (c : Cfg) (B : Int) (L : List Ent) (h : MAt w bm bt tb lb c B L) (V : List Hd) (hV : Vict V (allH L)) (want : Int) :
    Calls Tryz.prog 37 #[.pointer (some ⟨bm, 0, none⟩), .int .i64 want] w fun e w' => ∃ v, e = .returned (.tuple #[v, .int .i64 (pressF c L V want).2.1]) ∧ IRow w' w.heap.size v (pressF c L V want).1 ∧ MAt w' bm bt tb lb c B (pressF c L V want).2.2 ∧ Only [tb, lb] w w' := by
  have H := Lib.hid h
  have c1 := h.1.cell 1
  have c6 := h.1.cell 6
  have CW := Lib.hid (mod_within want 0 c.frames w)
  have hk := h.2.2.2.2.2.1
  have hc := h.2.2.2.2.1
  have hs := h.2.2.2.2.2.2.1
  by_cases hw : 0 ≤ want ∧ want ≤ c.frames
  rotate_left
  · have hF : pressF c L V want = ([], 3, L) := by unfold pressF; rw [if_neg hw]
    rw [hF]
    rw [decide_eq_false hw] at CW
    have HN := Lib.hid (IRow.nil w w.heap.size)
    clear h hk hc hs hV hw hF
    go_enter Tryz.func37, Tryz.ntmps37
    go_wp2_with (first
      | (go_at_call 39; refine (mod_none _ _ _ _ _ _ _ _ H.out).mono ?_; rintro e w' ⟨rfl, rfl⟩)
      | (go_at_call 16; refine CW.out.mono ?_; rintro e w' ⟨rfl, rfl⟩))
    go_returns
    exact ⟨_, rfl, HN.out, H.out, Only.of_below (Below.refl _ _)⟩
  have hF : pressF c L V want = (planOut V (max (c.frames - allF L) 0) want, 0, evictL L (planOut V (max (c.frames - allF L) 0) want)) := by unfold pressF; rw [if_pos hw]
  rw [hF]
  rw [decide_eq_true hw] at CW
  have hFB := allF_bounds hk hc hs
  have hOK := allH_ok hk hc hs
  have hll : L.length ≤ 2147483647 := h.2.1.2.2.1
  obtain ⟨n, hn⟩ : ∃ n, (liveK L).length = n := ⟨_, rfl⟩
  have hn64 : n ≤ 64 := by have := hc.2.1; omega
  obtain ⟨fr, hfr⟩ : ∃ fr, max (c.frames - allF L) 0 = fr := ⟨_, rfl⟩
  have hfrb : 0 ≤ fr ∧ fr ≤ 10000 := by have := hc.2.2.2.1; omega
  obtain ⟨outs, houts⟩ : ∃ outs, planOut V fr want = outs := ⟨_, rfl⟩
  have hPL := plan_live hV fr want
  rw [houts] at hPL
  rw [hfr, houts]
  have CF := Lib.hid (fun W (hW : MAt W bm bt tb lb c B L) => mod_Free W bm bt tb lb c B L hW)
  have CP : Hid (∀ (W : World) (A : Option Addr) (cc : Nat) (hs : List Hd) (b : Nat), hs.Perm (allH L) → HRow W b (.slice A hs.length cc) hs → Calls Tryz.prog 58 #[.slice A hs.length cc, .int .i64 fr, .int .i64 want] W fun e w' => ∃ v f, e = .returned (.tuple #[v, .int .i64 f, .int .i64 0]) ∧ IRow w' W.heap.size v outs ∧ Below W.heap.size W w') := Lib.hid fun W A cc hs b hp hR => by
    have h1 := press_Plan W A hs cc (row_sl hR) (fun ad he => row_lt hR ad he) (hOK.perm hp) V (hV.perm hp) fr want hfrb ⟨hw.1, by have := hc.2.2.2.1; omega⟩
    unfold PlanPost at h1
    rw [houts] at h1
    exact h1
  have HN := Lib.hid hn
  have HPL := Lib.hid hPL
  have HN64 := Lib.hid hn64
  have HLL := Lib.hid hll
  have HMX := Lib.hid hfr
  have HAL := Lib.hid (show (allH L).length = n by rw [← hn]; simp [allH])
  have HB0 := Lib.hid (Below.refl w.heap.size w)
  clear h hk hc hs hV hw hF hFB hOK hll hn hn64 hfr hfrb houts hPL
  go_enter Tryz.func37, Tryz.ntmps37
  go_wp2_with (first
    | (go_at_call 39; refine (mod_none _ _ _ _ _ _ _ _ H.out).mono ?_; rintro e w' ⟨rfl, rfl⟩)
    | (go_at_call 16; refine CW.out.mono ?_; rintro e w' ⟨rfl, rfl⟩)
    | (at_range; refine wpList_range_own _ rfl _ 54 rfl 3 72 keyed_int Tryz.underlying54 heldR lb L.length (numD gL L) rfl H.out.2.2.1 ?_; intro w0 hrg0 hg0 hs0))
  go_frame
  have HR0 := Lib.hid hrg0
  have HG0 := Lib.hid (below_of_grown' hg0)
  have HSZ0 := Lib.hid (show w.heap.size + 1 ≤ w0.heap.size by rw [hs0]; exact Nat.le_refl _)
  have HLB := Lib.hid H.out.2.2.1.lt
  clear hrg0 hg0 hs0
  have HE0 := Lib.hid (show HRow w0 (w.heap.size + 1) (.slice none 0 0) [] from World.ownsRow_nil _ _ _ _)
  have HP0 := Lib.hid (show ([] : List Hd).Perm (holdF (Maps.has (numD gL L)) 0 L) by rw [holdF_start])
  go_loopw [6] (fun v6 wr => ∃ (left : Lit → Bool) (cnt : Nat) (hs : List Hd), Hid (wr.ranges Tryz.prog 3 heldR lb w.heap.size L.length (numD gL L) left cnt) ∧ Hid (Below w.heap.size w wr) ∧ Hid (HRow wr (w.heap.size + 1) v6 hs) ∧ Hid (w.heap.size + 1 ≤ wr.heap.size) ∧ Hid (hs.Perm (holdF left 0 L))) (fun _ wr => wr.rangeLeft lb w.heap.size)
  case atStart => exact ⟨_, _, [], HR0, HG0, HE0, HSZ0, HP0⟩
  case round =>
    obtain ⟨left, cnt, hs, HR, HB, HH, HSZ, HP⟩ := hrel
    have hh := HH.out
    unfold HRow at hh
    obtain ⟨A6, c6', rfl⟩ := own_any hh
    clear hh
    go_wp2_with (at_next; refine wpList_next_ranges _ rfl _ rfl 3 keyed_int heldR encZ id (fun key kl hk => by obtain ⟨x, hx, _⟩ := Maps.keyOf_i64 Tryz.underlying3 hk; exact ⟨x, hx⟩) (fun v _ _ => ⟨v, rfl⟩) lb w.heap.size L.length _ _ _ rfl HR.out ?_ ?_)
    · intro hc0 hl0
      have HE := Lib.hid (show hs.Perm (allH L) by
        have h1 := HP.out
        rw [holdF_congr (l2 := fun _ => false) L 0 (fun i _ => .inl (hl0 _)), holdF_all] at h1
        exact h1)
      clear hc0 hl0
      have HMB := Lib.hid (H.out.later (HB.out.mono (Nat.le_refl _)))
      have hmx := HMX.out
      go_wp2_with (first
        | (go_at_call 13; refine (CF.out _ HMB.out).mono ?_; rintro e w6 ⟨rfl, hb6⟩; have HB6 := Lib.hid hb6; clear hb6)
        | (go_at_call 58; refine (CP.out _ A6 c6' hs (w.heap.size + 1) HE.out (HH.out.below HB6.out)).mono ?_; rintro e w7 ⟨v7, f7, rfl, hr7, hb7⟩; obtain ⟨A7, c7, rfl, hsl7⟩ := hr7.shape; have HB7 := Lib.hid (HB.out.trans ((HB6.out.trans (hb7.mono HB6.out.size)).mono HB.out.size)); have HR7 := Lib.hid (HMB.out.later (HB6.out.trans (hb7.mono HB6.out.size))); have HO7 := Lib.hid (hr7.mono (show w.heap.size ≤ w6.heap.size by have := HB.out.size; have := HB6.out.size; omega)); clear hr7 hb7 hsl7))
      have HF7 := Lib.hid (show Only [tb, lb] w7 w7 from Only.of_below (Below.refl _ _))
      obtain ⟨m, hm⟩ : ∃ m, outs.length = m := ⟨_, rfl⟩
      rw [hm] at HO7 ⊢
      have HM := Lib.hid hm
      have HM64 := Lib.hid (show m ≤ 64 by have h1 := HPL.out.2.2; have h2 := HN.out; have h3 := HN64.out; omega)
      have HNB : Hid (∀ g cs, Blk w7 g 3 cs → g ∉ [tb, lb]) := Lib.hid fun g cs hb => by
        have h2 : g ≠ tb := (own_ne_blk HR7.out.2.1.2.1 hb).symm
        have h3 : g ≠ lb := (own_ne_blk HR7.out.2.2.1 hb).symm
        simp [h2, h3]
      clear hm
      go_loopw [56] (fun v56 wr => ∃ j : Nat, v56 = .int .i64 (j : Int) ∧ j ≤ m ∧ Hid (MAt wr bm bt tb lb c B (evictL L (outs.take j))) ∧ Hid (Only [tb, lb] w7 wr)) (fun v56 _ => m - (ixOf v56).toNat)
      case atStart => exact ⟨0, rfl, Nat.zero_le _, HR7, HF7⟩
      case round =>
        obtain ⟨j, rfl, hj, HRj, HF⟩ := hrel
        have HIJ := Lib.hid (HF.out.irow (show IRow w7 w.heap.size (.slice A7 m c7) outs from HO7.out) HNB.out)
        have HSJ := Lib.hid (show Sl wr A7 (outs.map intV) from row_sl (by have h1 := HIJ.out; unfold IRow at h1; rw [HM.out] at h1; exact h1))
        by_cases hlt : j < m
        · have hlj : (j : Int) < (m : Int) := by omega
          have hj0 : ¬ (j : Int) < 0 := by omega
          obtain ⟨j1, hj1⟩ : ∃ j1, j + 1 = j1 := ⟨_, rfl⟩
          have hw1 : wrap64 ((j : Int) + 1) = (j1 : Int) := by have := HM64.out; rw [wrap64_id (by omega) (by omega)]; omega
          have hw2 : IntKind.i64.wrap ((j : Int) + 1) = (j1 : Int) := wrap_same hw1
          have HJ1 := Lib.hid hj1
          have HLT := Lib.hid hlt
          have hjl : j < outs.length := by have := HM.out; omega
          obtain ⟨id, hid⟩ : ∃ id, outs[j] = id := ⟨_, rfl⟩
          obtain ⟨k, hat⟩ := live_at (HPL.out.2.1 id (by rw [← hid]; exact List.getElem_mem _))
          have hnot : id ∉ outs.take j := by
            intro hmem
            have h1 := HPL.out.1
            rw [← List.take_append_drop j outs, List.nodup_append] at h1
            refine h1.2.2 id hmem id ?_ rfl
            rw [List.drop_eq_getElem_cons hjl, hid]
            simp
          have hat2 : atL (evictL L (outs.take j)) id = some (0, k) := by rw [evictL_at hnot, hat]
          have hnx : evictL L (outs.take j1) = (evictL L (outs.take j)).set (id - 1).toNat (22, k) := by rw [← hj1, evictL_take hjl, hid, evict1_live hat2]
          have hidb := atL_wf hat
          have hwf : (Lit.int .i64 id).wf = true := WalkArith.wf_i64 (by have := HLL.out; omega)
          have HNX := Lib.hid hnx
          obtain ⟨ad, rfl, ha1, ha2⟩ := HSJ.out.int j hjl
          rw [hid] at ha2
          have CO := Lib.hid (mod_over wr bm bt tb lb c B _ HRj.out id 22 hwf (by decide) k hat2)
          clear hj hlt hj1 hjl hid hat hnot hat2 hnx ha1 hidb hwf
          go_wp2_with (go_at_call 48; refine CO.out.mono ?_; rintro e w8 ⟨⟨u, rfl⟩, hr8, hf8⟩; have HR8 := Lib.hid hr8; have HF8 := Lib.hid (HF.out.trans hf8); clear hr8 hf8)
          go_roundw
          case rel => exact ⟨j1, (by first | rfl | exact congrArg (Value.int .i64) hw1 | exact congrArg (Value.int .i64) hw2 | exact congrArg (Value.int .i64) (by have := HJ1.out; omega)), by have := HLT.out; have := HJ1.out; omega, Lib.hid (by rw [HNX.out]; exact HR8.out), HF8⟩
          case measure => first | exact meas_up (x := (j1 : Int)) rfl HJ1.out HLT.out | exact meas_up hw1 HJ1.out HLT.out | exact meas_up (x := (j : Int) + 1) (by have := HJ1.out; omega) HJ1.out HLT.out
        · have hlj : ¬ (j : Int) < (m : Int) := by omega
          have HE := Lib.hid (show evictL L (outs.take j) = evictL L outs by rw [List.take_of_length_le (by have := HM.out; omega)])
          clear hj hlt
          go_wp2_with fail
          go_returns
          exact ⟨_, rfl, HIJ.out, by rw [← HE.out]; exact HRj.out, (Only.of_below HB7.out).trans HF.out⟩
    · intro x v kl yd yp w2 cnt2 hkey hlk hv hat hrg2 hlt hg2 hs2 hen
      obtain ⟨x', ex, rfl, _⟩ := Maps.keyOf_i64 Tryz.underlying3 hkey
      obtain rfl : x = x' := encZ_inj ex
      obtain ⟨hx1, k, hk, rfl⟩ := next_live (y := (yd, yp)) hv hat
      obtain ⟨i, hi⟩ : ∃ i, (x - 1).toNat = i := ⟨_, rfl⟩
      rw [hi] at hk
      have hxi : x = ((0 + i : Nat) : Int) + 1 := by omega
      subst hxi
      have hst := holdF_strike left L 0 i k hk hlk
      have HR2 := Lib.hid hrg2
      have HB2 := Lib.hid (HB.out.grown hg2 HB.out.size (fun k hk => by cases hk; exact Nat.le_refl _))
      have HH2 := Lib.hid (show HRow w2 (w.heap.size + 1) (.slice A6 hs.length c6') hs from own_grown HH.out hg2 (fun g hg e => by
        injection e with e
        have := (HH.out.lt g hg).1
        omega))
      have HSZ2 := Lib.hid (show w.heap.size + 1 ≤ w2.heap.size by have := hg2.size; have := HSZ.out; omega)
      have HLT := Lib.hid hlt
      have HEQ := Lib.hid HR.out.left_eq
      have HPN := Lib.hid (show (hs ++ [(((0 + i : Nat) : Int) + 1, k.frames)]).Perm (holdF (fun z => left z && !z.sameKey (keyI (((0 + i : Nat) : Int) + 1))) 0 L) from
        (List.perm_append_comm (l₁ := hs) (l₂ := [(((0 + i : Nat) : Int) + 1, k.frames)])).trans ((HP.out.cons _).trans hst.symm))
      have hil : i < L.length := (List.getElem?_eq_some_iff.1 hk).1
      have hhl : hs.length ≤ 2147483647 := by
        have h1 := HP.out.length_eq
        have h2 : ∀ (M : List Ent) (s : Nat), (holdF left s M).length ≤ M.length := by
          intro M
          induction M with
          | nil => intro s; simp [holdF]
          | cons y M ih => intro s; rw [holdF, List.length_append, List.length_cons]; have := ih (s + 1); split <;> simp <;> omega
        have h3 := h2 L 0
        have h4 := HLL.out
        omega
      have HHL := Lib.hid hhl
      obtain ⟨ca, en, cz, q, l, f, fr', p, g⟩ := k
      dsimp only at HPN
      have e0i : ((0 + i : Nat) : Int) + 1 = (i : Int) + 1 := by omega
      have HPN2 := Lib.hid (show (hs ++ [((i : Int) + 1, fr')]).Perm (holdF (fun z => left z && !z.sameKey (keyI (((0 + i : Nat) : Int) + 1))) 0 L) by have h1 := HPN.out; rw [e0i] at h1 ⊢; exact h1)
      have hbY : Below w2.heap.size w2 ((w2.alloc (.cells #[.int .i64 ca, .bool en, .int .i64 cz, .int .i64 q, .int .i64 l, .int .i64 f, .int .i64 fr', .int .i64 p, .int .i64 g] 72)).alloc (.cells #[encZ ((i : Int) + 1), .int .i64 fr'] 93)) := ((Below.refl _ _).alloc (Nat.le_refl _) _).alloc (by simp) _
      have HBY := Lib.hid hbY
      clear hrg2 hg2 hlt hs2 hv hat hkey hlk hx1 hi hk hst hil hhl hbY e0i
      have HOW := Lib.hid (own_below HH2.out HBY.out (Nat.le_refl _))
      have HBZ := Lib.hid (show Blk ((w2.alloc (.cells #[.int .i64 ca, .bool en, .int .i64 cz, .int .i64 q, .int .i64 l, .int .i64 f, .int .i64 fr', .int .i64 p, .int .i64 g] 72)).alloc (.cells #[encZ ((i : Int) + 1), .int .i64 fr'] 93)) (w2.heap.size + 1) 93 #[encZ ((i : Int) + 1), .int .i64 fr'] from (Blk.new _ _ _).at_eq (World.size_alloc _ _))
      go_wp2_with (at_builtin; refine wpList_app etHolds rfl rfl rfl HOW.out rfl (m := 1) (news := [encZ ((i : Int) + 1), .int .i64 fr']) rfl (HBZ.out.sl 0) (by simp [Value.oneCell']) (by have := HHL.out; omega) (Nat.le_trans HSZ2.out HBY.out.size) ?_; intro v5 w5 ho5 hg5 hor5; have HR5 := Lib.hid (show HRow w5 (w.heap.size + 1) v5 (hs ++ [((i : Int) + 1, fr')]) from HRow.app (ys := [((i : Int) + 1, fr')]) ho5 rfl); have HB5 := Lib.hid (below_app (HB2.out.trans (HBY.out.mono HB2.out.size)) HOW.out hg5 (Nat.le_trans HB2.out.size HBY.out.size) (Nat.le_succ _)); have HK5 := Lib.hid (((HR2.out.alloc (.cells #[.int .i64 ca, .bool en, .int .i64 cz, .int .i64 q, .int .i64 l, .int .i64 f, .int .i64 fr', .int .i64 p, .int .i64 g] 72)).alloc (.cells #[encZ ((i : Int) + 1), .int .i64 fr'] 93)).kept hg5 (fun e => by have h1 := (HOW.out.lt _ e.symm).1; have h2 := HLB.out; omega) (fun e => by have h1 := (HOW.out.lt _ e.symm).1; omega)); have HZ5 := Lib.hid (Nat.le_trans (Nat.le_trans HSZ2.out HBY.out.size) hg5.size); clear ho5 hg5 hor5)
      refine ⟨⟨_, cnt2, _, HK5, HB5, HR5, HZ5, HPN2⟩, ?_⟩
      rw [HK5.out.left_eq, HEQ.out]
      exact HLT.out
end Go.Proofs.YtklelheejopfmaaGreat
