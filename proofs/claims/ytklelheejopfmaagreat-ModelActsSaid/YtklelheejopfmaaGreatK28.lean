/- Free29, New29 -/
import Derived.Test.YtklelheejopfmaaGreatK27
namespace Go.Proofs.YtklelheejopfmaaGreat
open Go Go.RowKit Go.Maps
attribute [local go_sem] Oper.semAt_some
def frOf (L : List Ent) (id : Int) : Int := ((atL L id).map (·.2.frames)).getD 0
theorem live_at {L : List Ent} {id : Int} (h : id ∈ liveK L) : ∃ k, atL L id = some (0, k) := by
  unfold liveK at h
  suffices ∀ (M : List Ent) (s : Nat) (id : Int), id ∈ numK gL s M → ∃ q k, q < M.length ∧ id = ((s + q : Nat) : Int) + 1 ∧ M[q]? = some (0, k) by
    obtain ⟨q, k, h1, h2, h3⟩ := this L 0 id h
    refine ⟨k, ?_⟩
    unfold atL
    rw [if_pos (by omega)]
    have e : (id - 1).toNat = q := by omega
    rw [e, h3]
  intro M
  induction M with
  | nil => intro s id h; simp [numK] at h
  | cons x M ih =>
    intro s id h
    rw [numK, List.mem_append] at h
    rcases h with h | h
    · split at h
      · rename_i hx
        simp at h
        have hx0 : x.1 = 0 := by
          unfold gL at hx
          split at hx
          · assumption
          · cases hx
        exact ⟨0, x.2, by simp, by omega, by rw [List.getElem?_cons_zero, ← hx0]⟩
      · cases h
    · obtain ⟨q, k, h1, h2, h3⟩ := ih (s + 1) id h
      exact ⟨q + 1, k, by simpa using h1, by omega, by rw [List.getElem?_cons_succ]; exact h3⟩
theorem allF_sum (L : List Ent) : ((liveK L).map (frOf L)).sum = allF L := by
  unfold liveK allF
  suffices ∀ (M pre : List Ent), L = pre ++ M → ((numK gL pre.length M).map (frOf L)).sum = sumF (fun _ => false) pre.length M from this L [] rfl
  intro M
  induction M with
  | nil => intro pre _; rfl
  | cons x M ih =>
    intro pre hL
    have ih2 := ih (pre ++ [x]) (by rw [hL]; simp)
    rw [List.length_append, List.length_singleton] at ih2
    rw [numK, sumF, List.map_append, List.sum_append, ih2]
    congr 1
    have hat : atL L ((pre.length : Int) + 1) = some x := by
      have hl : pre.length < L.length := by rw [hL]; simp
      rw [atL_nat hl]
      congr 1
      simp [hL]
    by_cases hx : x.1 = 0
    · have h1 : (gL x).isSome = true := by unfold gL; rw [if_pos hx]; rfl
      rw [if_pos h1, if_pos ⟨hx, rfl⟩]
      simp [frOf, hat]
    · have h1 : (gL x).isSome = false := by unfold gL; rw [if_neg hx]; rfl
      rw [if_neg (by rw [h1]; decide), if_neg (fun e => hx e.1)]
      rfl
theorem sum_take {l : List Int} {f : Int → Int} {i : Nat} (h : i < l.length) : ((l.take (i + 1)).map f).sum = ((l.take i).map f).sum + f l[i] := by
  rw [List.take_succ_eq_append_getElem h, List.map_append, List.sum_append]
  simp
theorem sum_bound {l : List Int} {f : Int → Int} (hf : ∀ x ∈ l, 0 ≤ f x ∧ f x ≤ 64) : 0 ≤ (l.map f).sum ∧ (l.map f).sum ≤ 64 * l.length := by
  induction l with
  | nil => simp
  | cons x l ih =>
    have h1 := ih (fun y hy => hf y (by simp [hy]))
    have h2 := hf x (by simp)
    rw [List.map_cons, List.sum_cons, List.length_cons]
    push_cast
    omega
set_option maxRecDepth 100000 in
set_option maxHeartbeats 2000000 in
theorem ref29_Free (w : World) (rm rt base : Nat) (c : Cfg) (L : List Ent) (h : RAt w rm rt base c L) {B : Int} (hk : ∀ x ∈ L, KnOk c B x.2) (hc : CfgOk c) :
    Calls Tryz.prog 14 #[.pointer (some ⟨rm, 0, none⟩)] w fun e w' => e = .returned (.int .i64 (c.frames - allF L)) ∧ Below w.heap.size w w' := by
  have hll : L.length ≤ 2147483647 := by obtain ⟨_, _, _, ⟨_, _, _, t3, _⟩, _⟩ := h; exact t3
  have H := Lib.hid (h.later (Below.refl _ _).drew)
  have CL : Hid (Calls Tryz.prog 12 #[.pointer (some ⟨rt, 0, none⟩)] w.drew fun e w' => ∃ v, e = .returned v ∧ IRow w' w.drew.heap.size v (liveK L) ∧ Below w.drew.heap.size w.drew w') := Lib.hid (by obtain ⟨v, _, _, h3, _⟩ := H.out; exact ref26_Live _ rt base c.sess L h3)
  have HKn := Lib.hid hk
  have HFr : Hid (∀ x ∈ liveK L, 0 ≤ frOf L x ∧ frOf L x ≤ 64) := Lib.hid fun x hx => by
    obtain ⟨k, hat⟩ := live_at hx
    obtain ⟨i, _, _, _, hL⟩ := ix_of hat
    have h1 := hk (0, k) (List.mem_of_getElem? hL)
    have h2 := h1.2.2.2.2.2.2.2.2.1
    have h3 := h1.2.2.2.2.2.2.2.2.2
    have h4 := hc.2.2.2.2.2.1
    have h5 := hc.2.2.2.1
    unfold frOf
    rw [hat]
    show 0 ≤ k.frames ∧ k.frames ≤ 64
    dsimp only at h2 h3
    omega
  have HC := Lib.hid (And.intro hc.2.2.1 hc.2.2.2.1)
  have HLL := Lib.hid (show (liveK L).length ≤ 2147483647 from Nat.le_trans (numK_len L) hll)
  clear h hk hc hll
  go_enter Tryz.func14, Tryz.ntmps14
  go_wp2_with fail
  refine wp_region_plan2 (fun W => RAt W rm rt base c L ∧ Below w.heap.size w W) 10 [(0, true), (1, true), (2, true), (3, true), (4, true), (5, true), (6, true), (7, true), (8, true), (9, false)] (by kernel_rfl) (by kernel_rfl) (fun _ _ d _ _ h => by cases d <;> exact h) (by decide) (by simp only [List.map_cons, List.map_nil, Array.getD_eq_getD_getElem?, List.getElem?_toArray, List.getElem?_cons_zero, List.getElem?_cons_succ, Option.getD_some]; rfl) (by simp only [List.map_cons, List.map_nil]; rfl) (⟨H.out, (Below.refl _ _).drew⟩) (fun PE hPE => ?_)
  refine plan_take (v := ?_) rfl (by rfl) ?_ ?_
  rotate_left
  · intro _ hSw; (try dsimp only at hSw); go_simp; (try with_reducible rfl)
  simp only [List.setIfInBounds_toArray, List.set_cons_zero, List.set_cons_succ]
  refine plan_take (v := ?_) rfl (by rfl) ?_ ?_
  rotate_left
  · intro _ hSw; (try dsimp only at hSw); go_simp; (try with_reducible rfl)
  simp only [List.setIfInBounds_toArray, List.set_cons_zero, List.set_cons_succ]
  refine plan_take (v := ?_) rfl (by rfl) ?_ ?_
  rotate_left
  · intro _ hSw; (try dsimp only at hSw); go_simp; (try with_reducible rfl)
  simp only [List.setIfInBounds_toArray, List.set_cons_zero, List.set_cons_succ]
  refine plan_take (v := ?_) rfl (by rfl) ?_ ?_
  rotate_left
  · intro _ hSw; (try dsimp only at hSw); go_simp; (try with_reducible rfl)
  simp only [List.setIfInBounds_toArray, List.set_cons_zero, List.set_cons_succ]
  refine plan_take (v := ?_) rfl (by rfl) ?_ ?_
  rotate_left
  · intro _ hSw; (try dsimp only at hSw); obtain ⟨v, h1, _⟩ := hSw.1; have c0 := h1.cell 1; go_simp; (try with_reducible rfl)
  simp only [List.setIfInBounds_toArray, List.set_cons_zero, List.set_cons_succ]
  refine plan_take (v := ?_) rfl (by rfl) ?_ ?_
  rotate_left
  · intro _ hSw; (try dsimp only at hSw); go_simp; (try with_reducible rfl)
  simp only [List.setIfInBounds_toArray, List.set_cons_zero, List.set_cons_succ]
  refine plan_take (v := ?_) rfl (by rfl) ?_ ?_
  rotate_left
  · intro _ hSw; (try dsimp only at hSw); go_simp; (try with_reducible rfl)
  simp only [List.setIfInBounds_toArray, List.set_cons_zero, List.set_cons_succ]
  refine plan_take (v := ?_) rfl (by rfl) ?_ ?_
  rotate_left
  · intro _ hSw; (try dsimp only at hSw); go_simp; (try with_reducible rfl)
  simp only [List.setIfInBounds_toArray, List.set_cons_zero, List.set_cons_succ]
  refine plan_take (v := ?_) rfl (by rfl) ?_ ?_
  rotate_left
  · intro _ hSw; (try dsimp only at hSw); obtain ⟨v, h1, _⟩ := hSw.1; have c0 := h1.cell 5; go_simp; (try with_reducible rfl)
  simp only [List.setIfInBounds_toArray, List.set_cons_zero, List.set_cons_succ]
  refine plan_call rfl (by rfl) (by first | (go_simp; done) | (go_simp; rfl)) CL.out ?_
  rintro e w4 ⟨v, rfl, ho, hb⟩
  obtain ⟨A, cp, rfl, hsl⟩ := ho.shape
  have hb2 := undrew hb
  have hr4 := H.out.later hb
  refine ⟨_, rfl, ⟨hr4, hb2⟩, ?_⟩
  have HB := Lib.hid hb2
  have HR4 := Lib.hid hr4
  have HSL := Lib.hid hsl
  clear ho hb hb2 hr4 hsl
  simp only [List.setIfInBounds_toArray, List.set_cons_zero, List.set_cons_succ]
  (refine hPE _ _ ?_; simp only [List.drop_succ_cons, List.drop_zero]; clear hPE PE)
  obtain ⟨n, hn⟩ : ∃ n, (liveK L).length = n := ⟨_, rfl⟩
  rw [hn]
  have HN := Lib.hid hn
  have HBW := Lib.hid (Below.refl w4.heap.size w4)
  clear hn
  go_wp2_with fail
  go_loopw [3, 5] (fun v3 v5 wr => ∃ i : Nat, v3 = .int .i64 (c.frames - (((liveK L).take i).map (frOf L)).sum) ∧ v5 = .int .i64 (i : Int) ∧ i ≤ n ∧ Hid (Below w4.heap.size w4 wr)) (fun _ v5 _ => n - (ixOf v5).toNat)
  case atStart => exact ⟨0, by simp, rfl, Nat.zero_le _, HBW⟩
  case round =>
    obtain ⟨i, rfl, rfl, hi, HI⟩ := hrel
    by_cases hlt : i < n
    · have hli : (i : Int) < (n : Int) := by omega
      have hi0 : ¬ (i : Int) < 0 := by omega
      obtain ⟨i1, hi1⟩ : ∃ i1, i + 1 = i1 := ⟨_, rfl⟩
      have hw1 : wrap64 ((i : Int) + 1) = (i1 : Int) := by have := HLL.out; have := HN.out; rw [wrap64_id (by omega) (by omega)]; omega
      have HI1 := Lib.hid hi1
      have HLT := Lib.hid hlt
      have hil : i < (liveK L).length := by have := HN.out; omega
      obtain ⟨id, hid⟩ : ∃ id, (liveK L)[i] = id := ⟨_, rfl⟩
      have hmem : id ∈ liveK L := by rw [← hid]; exact List.getElem_mem _
      obtain ⟨k, hat⟩ := live_at hmem
      have hst := sum_take (l := liveK L) (f := frOf L) hil
      have hfr : frOf L id = k.frames := by unfold frOf; rw [hat]; rfl
      have hkb := HFr.out id hmem
      rw [hid, hfr] at hst
      rw [hfr] at hkb
      obtain ⟨q, rfl, e0, hq, hL⟩ := ix_of hat
      have hsb := sum_bound (l := (liveK L).take i) (f := frOf L) (fun x hx => HFr.out x (List.mem_of_mem_take hx))
      have hlen : ((liveK L).take i).length ≤ 2147483647 := by rw [List.length_take]; have := HLL.out; omega
      obtain ⟨y0, hy0⟩ : ∃ y0, (((liveK L).take i).map (frOf L)).sum = y0 := ⟨_, rfl⟩
      obtain ⟨y1, hy1⟩ : ∃ y1, (((liveK L).take (i + 1)).map (frOf L)).sum = y1 := ⟨_, rfl⟩
      rw [hy0] at hst hsb ⊢
      rw [hy1] at hst
      have hw2 : IntKind.i64.wrap (c.frames - y0 - k.frames) = c.frames - y1 := by have := HC.out; rw [IntKind.wrap_i64]; omega
      have q0 : ¬ (q : Int) < 0 := by omega
      have q1 : (q : Int) < (L.length : Int) := by omega
      have qw : IntKind.i64.wrap (q : Int) = (q : Int) := by have := HLL.out; have hq2 : L.length ≤ 2147483647 := by { obtain ⟨_, _, _, ⟨_, _, _, t3, _⟩, _⟩ := H.out; exact t3 }; rw [IntKind.wrap_i64]; omega
      obtain ⟨ca, en, cz, qq, l, f, fr, p, gn⟩ := k
      dsimp only at hw2
      have HY1 := Lib.hid hy1
      have HL := Lib.hid hL
      obtain ⟨ad, rfl, ha1, ha2⟩ := HSL.out.int i hil
      clear ha1 ha2
      have HCI : Hid (∀ W, Sl W (some ad) ((liveK L).map intV) → W.cell? (ad.add i) = some (.int .i64 ((q : Int) + 1))) := Lib.hid fun W hW => by
        obtain ⟨ad', e, _, c0⟩ := hW.int i (by have := HLT.out; have := HN.out; omega)
        cases e
        rw [hid] at c0
        exact c0
      have HSS := Lib.hid (show Sl wr.drew (some ad) ((liveK L).map intV) from HSL.out.below HI.out.drew)
      have HRR := Lib.hid (show RAt wr.drew rm rt base c L from HR4.out.later HI.out.drew)
      have HI2 := Lib.hid (show Below w4.heap.size w4 wr.drew from HI.out.drew)
      obtain ⟨g, cap, hg6, _⟩ := HRR.out.cells HL.out
      have HCL : Hid (∀ W, W.cell? ⟨rm, 6, none⟩ = some (.slice (some ⟨g, 0, none⟩) L.length cap) → RAt W rm rt base c L → W.cell? ⟨g, q * 9 + 6, none⟩ = some (.int .i64 fr)) := Lib.hid fun W h6 hW => by
        obtain ⟨g', cap', h6', _, hcell, _⟩ := hW.cells HL.out
        rw [h6] at h6'
        simp at h6'
        obtain ⟨rfl, rfl⟩ := h6'
        exact hcell 6 (by decide)
      have HG6 := Lib.hid hg6
      clear hi hlt hi1 hil hid hmem hat hst hfr hkb e0 hq hL hsb hlen hy0 hy1
      go_wp2_with fail
      refine wp_region_plan2 (fun W => Sl W (some ad) ((liveK L).map intV) ∧ RAt W rm rt base c L ∧ W.cell? ⟨rm, 6, none⟩ = some (.slice (some ⟨g, 0, none⟩) L.length cap)) 16 [(0, true), (1, true), (2, true), (3, true), (4, true), (5, true), (6, true), (7, true), (8, true), (9, true), (10, true), (11, true), (12, true), (13, true), (14, true), (15, true)] (by kernel_rfl) (by kernel_rfl) (fun _ _ d _ _ h => by cases d <;> exact h) (by decide) (by simp only [List.map_cons, List.map_nil, Array.getD_eq_getD_getElem?, List.getElem?_toArray, List.getElem?_cons_zero, List.getElem?_cons_succ, Option.getD_some]; rfl) (by simp only [List.map_cons, List.map_nil]; rfl) (⟨HSS.out, HRR.out, HG6.out⟩) (fun PE hPE => ?_)
      refine plan_take (v := ?_) rfl (by rfl) ?_ ?_
      rotate_left
      · intro _ hSw; (try dsimp only at hSw); go_simp; (try with_reducible rfl)
      simp only [List.setIfInBounds_toArray, List.set_cons_zero, List.set_cons_succ]
      refine plan_take (v := ?_) rfl (by rfl) ?_ ?_
      rotate_left
      · intro _ hSw; (try dsimp only at hSw); go_simp; (try with_reducible rfl)
      simp only [List.setIfInBounds_toArray, List.set_cons_zero, List.set_cons_succ]
      refine plan_take (v := ?_) rfl (by rfl) ?_ ?_
      rotate_left
      · intro _ hSw; (try dsimp only at hSw); go_simp; (try with_reducible rfl)
      simp only [List.setIfInBounds_toArray, List.set_cons_zero, List.set_cons_succ]
      refine plan_take (v := ?_) rfl (by rfl) ?_ ?_
      rotate_left
      · intro _ hSw; (try dsimp only at hSw); go_simp; (try with_reducible rfl)
      simp only [List.setIfInBounds_toArray, List.set_cons_zero, List.set_cons_succ]
      refine plan_take (v := ?_) rfl (by rfl) ?_ ?_
      rotate_left
      · intro _ hSw; (try dsimp only at hSw); have x6 := hSw.2.2; go_simp; (try with_reducible rfl)
      simp only [List.setIfInBounds_toArray, List.set_cons_zero, List.set_cons_succ]
      refine plan_take (v := ?_) rfl (by rfl) ?_ ?_
      rotate_left
      · intro _ hSw; (try dsimp only at hSw); go_simp; (try with_reducible rfl)
      simp only [List.setIfInBounds_toArray, List.set_cons_zero, List.set_cons_succ]
      refine plan_take (v := ?_) rfl (by rfl) ?_ ?_
      rotate_left
      · intro _ hSw; (try dsimp only at hSw); go_simp; (try with_reducible rfl)
      simp only [List.setIfInBounds_toArray, List.set_cons_zero, List.set_cons_succ]
      refine plan_take (v := ?_) rfl (by rfl) ?_ ?_
      rotate_left
      · intro _ hSw; (try dsimp only at hSw); go_simp; (try with_reducible rfl)
      simp only [List.setIfInBounds_toArray, List.set_cons_zero, List.set_cons_succ]
      refine plan_take (v := ?_) rfl (by rfl) ?_ ?_
      rotate_left
      · intro _ hSw; (try dsimp only at hSw); have x0 := HCI.out _ hSw.1; go_simp; (try with_reducible rfl)
      simp only [List.setIfInBounds_toArray, List.set_cons_zero, List.set_cons_succ]
      refine plan_take (v := ?_) rfl (by rfl) ?_ ?_
      rotate_left
      · intro _ hSw; (try dsimp only at hSw); go_simp; (try with_reducible rfl)
      simp only [List.setIfInBounds_toArray, List.set_cons_zero, List.set_cons_succ]
      refine plan_take (v := ?_) rfl (by rfl) ?_ ?_
      rotate_left
      · intro _ hSw; (try dsimp only at hSw); go_simp; (try with_reducible rfl)
      simp only [List.setIfInBounds_toArray, List.set_cons_zero, List.set_cons_succ]
      refine plan_take (v := ?_) rfl (by rfl) ?_ ?_
      rotate_left
      · intro _ hSw; (try dsimp only at hSw); go_simp; (try with_reducible rfl)
      simp only [List.setIfInBounds_toArray, List.set_cons_zero, List.set_cons_succ]
      refine plan_take (v := ?_) rfl (by rfl) ?_ ?_
      rotate_left
      · intro _ hSw; (try dsimp only at hSw); go_simp; (try with_reducible rfl)
      simp only [List.setIfInBounds_toArray, List.set_cons_zero, List.set_cons_succ]
      refine plan_take (v := ?_) rfl (by rfl) ?_ ?_
      rotate_left
      · intro _ hSw; (try dsimp only at hSw); have x0 := HCL.out _ hSw.2.2 hSw.2.1; go_simp; (try with_reducible rfl)
      simp only [List.setIfInBounds_toArray, List.set_cons_zero, List.set_cons_succ]
      refine plan_take (v := ?_) rfl (by rfl) ?_ ?_
      rotate_left
      · intro _ hSw; (try dsimp only at hSw); go_simp; (try with_reducible rfl)
      simp only [List.setIfInBounds_toArray, List.set_cons_zero, List.set_cons_succ]
      refine plan_take (v := ?_) rfl (by rfl) ?_ ?_
      rotate_left
      · intro _ hSw; (try dsimp only at hSw); go_simp; (try with_reducible rfl)
      simp only [List.setIfInBounds_toArray, List.set_cons_zero, List.set_cons_succ]
      (refine hPE _ _ ?_; simp only [List.drop_succ_cons, List.drop_zero]; clear hPE PE)
      go_wp2_with fail
      go_roundw
      case rel => exact ⟨i1, (by rw [← HI1.out, HY1.out]), (by first | exact congrArg (Value.int .i64) hw1 | exact congrArg (Value.int .i64) (by have := HI1.out; omega)), by have := HLT.out; have := HI1.out; omega, HI2⟩
      case measure => first | exact meas_up hw1 HI1.out HLT.out | exact meas_up (x := (i : Int) + 1) (by have := HI1.out; omega) HI1.out HLT.out
    · have hli : ¬ (i : Int) < (n : Int) := by omega
      have hE : (((liveK L).take i).map (frOf L)).sum = allF L := by rw [List.take_of_length_le (by have := HN.out; omega)]; exact allF_sum L
      rw [hE]
      clear hi hlt hE
      go_wp2_with fail
      go_ret
      exact ⟨rfl, HB.out.trans (HI.out.mono HB.out.size)⟩
end Go.Proofs.YtklelheejopfmaaGreat
namespace Go.Proofs.YtklelheejopfmaaGreat
open Go Go.RowKit Go.Maps
attribute [local go_sem] Oper.semAt_some
set_option maxRecDepth 100000 in
set_option maxHeartbeats 2000000 in
theorem mod_New_no (w : World) (c : Cfg) (hc : ¬ CfgOk c) : Calls Tryz.prog 4 #[.agg #[.int .i64 c.sess, .int .i64 c.frames, .int .i64 c.quota, .int .i64 c.room, .int .i64 c.slots]] w fun e w' => e = .returned (.tuple #[.pointer none, .int .i64 3]) ∧ Below w.heap.size w w' := by
  obtain ⟨se, fr, qu, ro, sl⟩ := c
  have HB0 := Lib.hid (show Below w.heap.size w (w.alloc (.cells #[.int .i64 se, .int .i64 fr, .int .i64 qu, .int .i64 ro, .int .i64 sl] 23)) from (Below.refl _ _).alloc (Nat.le_refl _) _)
  by_cases h1 : 1 ≤ fr ∧ fr ≤ 64
  rotate_left
  · have hc2 := hc
    clear hc
    have d1 : decide (1 ≤ fr ∧ fr ≤ 64) = false := decide_eq_false h1
    have D1 := Lib.hid (fun W => by have h := mod_within fr 1 64 W; rw [d1] at h; exact h)
    clear hc2 d1 h1
    go_enter Tryz.func4, Tryz.ntmps4
    go_wp2_with (first
    | (go_at_call 16; refine (D1.out _).mono ?_; rintro e w' ⟨rfl, rfl⟩; clear D1))
    go_returns
    exact ⟨rfl, HB0.out⟩
  by_cases h2 : 2 ≤ qu ∧ qu ≤ fr
  rotate_left
  · have hc2 := hc
    clear hc
    have d2 : decide (2 ≤ qu ∧ qu ≤ fr) = false := decide_eq_false h2
    have d1 : decide (1 ≤ fr ∧ fr ≤ 64) = true := decide_eq_true h1
    have D1 := Lib.hid (fun W => by have h := mod_within fr 1 64 W; rw [d1] at h; exact h)
    have D2 := Lib.hid (fun W => by have h := mod_within qu 2 fr W; rw [d2] at h; exact h)
    clear hc2 d1 d2 h1 h2
    go_enter Tryz.func4, Tryz.ntmps4
    go_wp2_with (first
    | (go_at_call 16; refine (D1.out _).mono ?_; rintro e w' ⟨rfl, rfl⟩; clear D1)
      | (go_at_call 16; refine (D2.out _).mono ?_; rintro e w' ⟨rfl, rfl⟩; clear D2))
    go_returns
    exact ⟨rfl, HB0.out⟩
  by_cases h3 : 1024 ≤ ro ∧ ro ≤ 1048576
  rotate_left
  · have hc2 := hc
    clear hc
    have d3 : decide (1024 ≤ ro ∧ ro ≤ 1048576) = false := decide_eq_false h3
    have d1 : decide (1 ≤ fr ∧ fr ≤ 64) = true := decide_eq_true h1
    have d2 : decide (2 ≤ qu ∧ qu ≤ fr) = true := decide_eq_true h2
    have D1 := Lib.hid (fun W => by have h := mod_within fr 1 64 W; rw [d1] at h; exact h)
    have D2 := Lib.hid (fun W => by have h := mod_within qu 2 fr W; rw [d2] at h; exact h)
    have D3 := Lib.hid (fun W => by have h := mod_within ro 1024 1048576 W; rw [d3] at h; exact h)
    clear hc2 d1 d2 d3 h1 h2 h3
    go_enter Tryz.func4, Tryz.ntmps4
    go_wp2_with (first
    | (go_at_call 16; refine (D1.out _).mono ?_; rintro e w' ⟨rfl, rfl⟩; clear D1)
      | (go_at_call 16; refine (D2.out _).mono ?_; rintro e w' ⟨rfl, rfl⟩; clear D2)
      | (go_at_call 16; refine (D3.out _).mono ?_; rintro e w' ⟨rfl, rfl⟩; clear D3))
    go_returns
    exact ⟨rfl, HB0.out⟩
  by_cases h4 : 1 ≤ sl ∧ sl ≤ 1000
  rotate_left
  · have hc2 := hc
    clear hc
    have d4 : decide (1 ≤ sl ∧ sl ≤ 1000) = false := decide_eq_false h4
    have d1 : decide (1 ≤ fr ∧ fr ≤ 64) = true := decide_eq_true h1
    have d2 : decide (2 ≤ qu ∧ qu ≤ fr) = true := decide_eq_true h2
    have d3 : decide (1024 ≤ ro ∧ ro ≤ 1048576) = true := decide_eq_true h3
    have D1 := Lib.hid (fun W => by have h := mod_within fr 1 64 W; rw [d1] at h; exact h)
    have D2 := Lib.hid (fun W => by have h := mod_within qu 2 fr W; rw [d2] at h; exact h)
    have D3 := Lib.hid (fun W => by have h := mod_within ro 1024 1048576 W; rw [d3] at h; exact h)
    have D4 := Lib.hid (fun W => by have h := mod_within sl 1 1000 W; rw [d4] at h; exact h)
    clear hc2 d1 d2 d3 d4 h1 h2 h3 h4
    go_enter Tryz.func4, Tryz.ntmps4
    go_wp2_with (first
    | (go_at_call 16; refine (D1.out _).mono ?_; rintro e w' ⟨rfl, rfl⟩; clear D1)
      | (go_at_call 16; refine (D2.out _).mono ?_; rintro e w' ⟨rfl, rfl⟩; clear D2)
      | (go_at_call 16; refine (D3.out _).mono ?_; rintro e w' ⟨rfl, rfl⟩; clear D3)
      | (go_at_call 16; refine (D4.out _).mono ?_; rintro e w' ⟨rfl, rfl⟩; clear D4))
    go_returns
    exact ⟨rfl, HB0.out⟩
  have hs : ¬ (1 ≤ se ∧ se ≤ 64) := fun hs => hc ⟨hs.1, hs.2, h1.1, h1.2, h2.1, h2.2, h3.1, h3.2, h4.1, h4.2⟩
  have d1 : decide (1 ≤ fr ∧ fr ≤ 64) = true := decide_eq_true h1
  have d2 : decide (2 ≤ qu ∧ qu ≤ fr) = true := decide_eq_true h2
  have d3 : decide (1024 ≤ ro ∧ ro ≤ 1048576) = true := decide_eq_true h3
  have d4 : decide (1 ≤ sl ∧ sl ≤ 1000) = true := decide_eq_true h4
  have D1 := Lib.hid (fun W => by have h := mod_within fr 1 64 W; rw [d1] at h; exact h)
  have D2 := Lib.hid (fun W => by have h := mod_within qu 2 fr W; rw [d2] at h; exact h)
  have D3 := Lib.hid (fun W => by have h := mod_within ro 1024 1048576 W; rw [d3] at h; exact h)
  have D4 := Lib.hid (fun W => by have h := mod_within sl 1 1000 W; rw [d4] at h; exact h)
  have CN := Lib.hid (fun W => table_New_no W se hs)
  clear hc hs d1 d2 d3 d4 h1 h2 h3 h4
  go_enter Tryz.func4, Tryz.ntmps4
  go_wp2_with (first
    | (go_at_call 16; refine (D1.out _).mono ?_; rintro e w' ⟨rfl, rfl⟩; clear D1)
    | (go_at_call 16; refine (D2.out _).mono ?_; rintro e w' ⟨rfl, rfl⟩; clear D2)
    | (go_at_call 16; refine (D3.out _).mono ?_; rintro e w' ⟨rfl, rfl⟩; clear D3)
    | (go_at_call 16; refine (D4.out _).mono ?_; rintro e w' ⟨rfl, rfl⟩; clear D4)
    | (go_at_call 17; refine (CN.out _).mono ?_; rintro e w1 ⟨rfl, rfl⟩))
  go_returns
  exact ⟨rfl, HB0.out⟩
set_option maxRecDepth 100000 in
set_option maxHeartbeats 2000000 in
theorem ref29_New_no (w : World) (c : Cfg) (hc : ¬ CfgOk c) : Calls Tryz.prog 5 #[.agg #[.int .i64 c.sess, .int .i64 c.frames, .int .i64 c.quota, .int .i64 c.room, .int .i64 c.slots]] w fun e w' => e = .returned (.tuple #[.pointer none, .int .i64 3]) ∧ Below w.heap.size w w' := by
  obtain ⟨se, fr, qu, ro, sl⟩ := c
  have HB0 := Lib.hid (show Below w.heap.size w (w.alloc (.cells #[.int .i64 se, .int .i64 fr, .int .i64 qu, .int .i64 ro, .int .i64 sl] 23)) from (Below.refl _ _).alloc (Nat.le_refl _) _)
  by_cases h1 : 1 ≤ se ∧ se ≤ 64
  rotate_left
  · have hc2 := hc
    clear hc
    have d1 : decide (1 ≤ se ∧ se ≤ 64) = false := decide_eq_false h1
    have D1 := Lib.hid (fun W => by have h := ref29_within se 1 64 W; rw [d1] at h; exact h)
    clear hc2 d1 h1
    go_enter Tryz.func5, Tryz.ntmps5
    go_wp2_with (first
    | (go_at_call 18; refine (D1.out _).mono ?_; rintro e w' ⟨rfl, rfl⟩; clear D1))
    go_returns
    exact ⟨rfl, HB0.out⟩
  by_cases h2 : 1 ≤ fr ∧ fr ≤ 64
  rotate_left
  · have hc2 := hc
    clear hc
    have d2 : decide (1 ≤ fr ∧ fr ≤ 64) = false := decide_eq_false h2
    have d1 : decide (1 ≤ se ∧ se ≤ 64) = true := decide_eq_true h1
    have D1 := Lib.hid (fun W => by have h := ref29_within se 1 64 W; rw [d1] at h; exact h)
    have D2 := Lib.hid (fun W => by have h := ref29_within fr 1 64 W; rw [d2] at h; exact h)
    clear hc2 d1 d2 h1 h2
    go_enter Tryz.func5, Tryz.ntmps5
    go_wp2_with (first
    | (go_at_call 18; refine (D1.out _).mono ?_; rintro e w' ⟨rfl, rfl⟩; clear D1)
      | (go_at_call 18; refine (D2.out _).mono ?_; rintro e w' ⟨rfl, rfl⟩; clear D2))
    go_returns
    exact ⟨rfl, HB0.out⟩
  by_cases h3 : 2 ≤ qu ∧ qu ≤ fr
  rotate_left
  · have hc2 := hc
    clear hc
    have d3 : decide (2 ≤ qu ∧ qu ≤ fr) = false := decide_eq_false h3
    have d1 : decide (1 ≤ se ∧ se ≤ 64) = true := decide_eq_true h1
    have d2 : decide (1 ≤ fr ∧ fr ≤ 64) = true := decide_eq_true h2
    have D1 := Lib.hid (fun W => by have h := ref29_within se 1 64 W; rw [d1] at h; exact h)
    have D2 := Lib.hid (fun W => by have h := ref29_within fr 1 64 W; rw [d2] at h; exact h)
    have D3 := Lib.hid (fun W => by have h := ref29_within qu 2 fr W; rw [d3] at h; exact h)
    clear hc2 d1 d2 d3 h1 h2 h3
    go_enter Tryz.func5, Tryz.ntmps5
    go_wp2_with (first
    | (go_at_call 18; refine (D1.out _).mono ?_; rintro e w' ⟨rfl, rfl⟩; clear D1)
      | (go_at_call 18; refine (D2.out _).mono ?_; rintro e w' ⟨rfl, rfl⟩; clear D2)
      | (go_at_call 18; refine (D3.out _).mono ?_; rintro e w' ⟨rfl, rfl⟩; clear D3))
    go_returns
    exact ⟨rfl, HB0.out⟩
  by_cases h4 : 1024 ≤ ro ∧ ro ≤ 1048576
  rotate_left
  · have hc2 := hc
    clear hc
    have d4 : decide (1024 ≤ ro ∧ ro ≤ 1048576) = false := decide_eq_false h4
    have d1 : decide (1 ≤ se ∧ se ≤ 64) = true := decide_eq_true h1
    have d2 : decide (1 ≤ fr ∧ fr ≤ 64) = true := decide_eq_true h2
    have d3 : decide (2 ≤ qu ∧ qu ≤ fr) = true := decide_eq_true h3
    have D1 := Lib.hid (fun W => by have h := ref29_within se 1 64 W; rw [d1] at h; exact h)
    have D2 := Lib.hid (fun W => by have h := ref29_within fr 1 64 W; rw [d2] at h; exact h)
    have D3 := Lib.hid (fun W => by have h := ref29_within qu 2 fr W; rw [d3] at h; exact h)
    have D4 := Lib.hid (fun W => by have h := ref29_within ro 1024 1048576 W; rw [d4] at h; exact h)
    clear hc2 d1 d2 d3 d4 h1 h2 h3 h4
    go_enter Tryz.func5, Tryz.ntmps5
    go_wp2_with (first
    | (go_at_call 18; refine (D1.out _).mono ?_; rintro e w' ⟨rfl, rfl⟩; clear D1)
      | (go_at_call 18; refine (D2.out _).mono ?_; rintro e w' ⟨rfl, rfl⟩; clear D2)
      | (go_at_call 18; refine (D3.out _).mono ?_; rintro e w' ⟨rfl, rfl⟩; clear D3)
      | (go_at_call 18; refine (D4.out _).mono ?_; rintro e w' ⟨rfl, rfl⟩; clear D4))
    go_returns
    exact ⟨rfl, HB0.out⟩
  by_cases h5 : 1 ≤ sl ∧ sl ≤ 1000
  rotate_left
  · have hc2 := hc
    clear hc
    have d5 : decide (1 ≤ sl ∧ sl ≤ 1000) = false := decide_eq_false h5
    have d1 : decide (1 ≤ se ∧ se ≤ 64) = true := decide_eq_true h1
    have d2 : decide (1 ≤ fr ∧ fr ≤ 64) = true := decide_eq_true h2
    have d3 : decide (2 ≤ qu ∧ qu ≤ fr) = true := decide_eq_true h3
    have d4 : decide (1024 ≤ ro ∧ ro ≤ 1048576) = true := decide_eq_true h4
    have D1 := Lib.hid (fun W => by have h := ref29_within se 1 64 W; rw [d1] at h; exact h)
    have D2 := Lib.hid (fun W => by have h := ref29_within fr 1 64 W; rw [d2] at h; exact h)
    have D3 := Lib.hid (fun W => by have h := ref29_within qu 2 fr W; rw [d3] at h; exact h)
    have D4 := Lib.hid (fun W => by have h := ref29_within ro 1024 1048576 W; rw [d4] at h; exact h)
    have D5 := Lib.hid (fun W => by have h := ref29_within sl 1 1000 W; rw [d5] at h; exact h)
    clear hc2 d1 d2 d3 d4 d5 h1 h2 h3 h4 h5
    go_enter Tryz.func5, Tryz.ntmps5
    go_wp2_with (first
    | (go_at_call 18; refine (D1.out _).mono ?_; rintro e w' ⟨rfl, rfl⟩; clear D1)
      | (go_at_call 18; refine (D2.out _).mono ?_; rintro e w' ⟨rfl, rfl⟩; clear D2)
      | (go_at_call 18; refine (D3.out _).mono ?_; rintro e w' ⟨rfl, rfl⟩; clear D3)
      | (go_at_call 18; refine (D4.out _).mono ?_; rintro e w' ⟨rfl, rfl⟩; clear D4)
      | (go_at_call 18; refine (D5.out _).mono ?_; rintro e w' ⟨rfl, rfl⟩; clear D5))
    go_returns
    exact ⟨rfl, HB0.out⟩
  exact absurd ⟨h1.1, h1.2, h2.1, h2.2, h3.1, h3.2, h4.1, h4.2, h5.1, h5.2⟩ hc
set_option maxRecDepth 100000 in
set_option maxHeartbeats 1000000 in
theorem ref29_New_ok (w : World) (base : Nat) (hbase : base ≤ w.heap.size) (c : Cfg) (hc : CfgOk c) : Calls Tryz.prog 5 #[.agg #[.int .i64 c.sess, .int .i64 c.frames, .int .i64 c.quota, .int .i64 c.room, .int .i64 c.slots]] w fun e w' =>
    ∃ rm rt, e = .returned (.tuple #[.pointer (some ⟨rm, 0, none⟩), .int .i64 0]) ∧ RAt w' rm rt base c [] ∧ Below w.heap.size w w' := by
  obtain ⟨se, fr, qu, ro, sl⟩ := c
  obtain ⟨h1, h2, h3, h4, h5, h6, h7, h8, h9, h10⟩ := hc
  dsimp only at h1 h2 h3 h4 h5 h6 h7 h8 h9 h10
  have d1 : decide (1 ≤ se ∧ se ≤ 64) = true := decide_eq_true ⟨h1, h2⟩
  have d2 : decide (1 ≤ fr ∧ fr ≤ 64) = true := decide_eq_true ⟨h3, h4⟩
  have d3 : decide (2 ≤ qu ∧ qu ≤ fr) = true := decide_eq_true ⟨h5, h6⟩
  have d4 : decide (1024 ≤ ro ∧ ro ≤ 1048576) = true := decide_eq_true ⟨h7, h8⟩
  have d5 : decide (1 ≤ sl ∧ sl ≤ 1000) = true := decide_eq_true ⟨h9, h10⟩
  have D1 := Lib.hid (fun W => by have h := ref29_within se 1 64 W; rw [d1] at h; exact h)
  have D2 := Lib.hid (fun W => by have h := ref29_within fr 1 64 W; rw [d2] at h; exact h)
  have D3 := Lib.hid (fun W => by have h := ref29_within qu 2 fr W; rw [d3] at h; exact h)
  have D4 := Lib.hid (fun W => by have h := ref29_within ro 1024 1048576 W; rw [d4] at h; exact h)
  have D5 := Lib.hid (fun W => by have h := ref29_within sl 1 1000 W; rw [d5] at h; exact h)
  have CN := Lib.hid (fun W => ref26_New W se h1 h2)
  have HX := Lib.hid (Blk.new w 23 #[.int .i64 se, .int .i64 fr, .int .i64 qu, .int .i64 ro, .int .i64 sl])
  have HBS := Lib.hid hbase
  clear d1 d2 d3 d4 d5 h1 h2 h3 h4 h5 h6 h7 h8 h9 h10 hbase
  go_enter Tryz.func5, Tryz.ntmps5
  go_wp2_with (first
    | (go_at_call 18; refine (D1.out _).mono ?_; rintro e w' ⟨rfl, rfl⟩; clear D1)
    | (go_at_call 18; refine (D2.out _).mono ?_; rintro e w' ⟨rfl, rfl⟩; clear D2)
    | (go_at_call 18; refine (D3.out _).mono ?_; rintro e w' ⟨rfl, rfl⟩; clear D3)
    | (go_at_call 18; refine (D4.out _).mono ?_; rintro e w' ⟨rfl, rfl⟩; clear D4)
    | (go_at_call 18; refine (D5.out _).mono ?_; rintro e w' ⟨rfl, rfl⟩; clear D5)
    | (go_at_call 19; refine (CN.out _).mono ?_; rintro e w1 ⟨rfl, ht1, rfl⟩; clear ht1))
  go_returns
  refine ⟨w.heap.size + 2, w.heap.size + 1, by simp, ⟨_, (Blk.new _ _ _).at_eq (by simp), World.ownsRow_nil _ _ _ _, ⟨_, ((Blk.new _ _ _).at_eq (World.size_alloc _ _)).alloc _, World.ownsRow_nil _ _ _ _, by simp, by have := HBS.out; omega⟩, by have := HBS.out; omega⟩, ?_⟩
  exact (((Below.refl _ _).alloc (Nat.le_refl _) _).alloc (by simp) _).alloc (by simp; omega) _
end Go.Proofs.YtklelheejopfmaaGreat
