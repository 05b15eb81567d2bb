/- Step0, Ref08c, Ref08d, Ref08e, Ref12, Ref12b, Ref12c, Ref19 -/
import Derived.Test.YtcojnigkgbmbmaaGreatDoorT27
import Derived.Test.YtcojnigkgbmbmaaGreatDoorT28
import Derived.Test.YtcojnigkgbmbmaaGreatDoorT24
import Derived.Test.YtcojnigkgbmbmaaGreatDoorT02
import Derived.Test.YtcojnigkgbmbmaaGreatDoorT18
namespace Go.Proofs.YtcojnigkgbmbmaaGreatDoor
open Go Go.RowKit
attribute [local go_sem] Oper.semAt_some
theorem rd_steps (g : Nat) (w : World) : Calls Tryz.prog 34 #[.pointer (some ⟨g, 0, none⟩)] w fun e w' => e = .returned (.func (.func 71) #[] #[.pointer (some ⟨w.heap.size, 0, none⟩)]) ∧ w' = w.alloc (.cells #[.pointer (some ⟨g, 0, none⟩)] 57) := by
  go_enter Tryz.func34, Tryz.ntmps34
  go_wp2_with fail
  go_ret
  exact ⟨rfl, rfl⟩
theorem rd_part (g k : Nat) (fr : Int) (w : World) : Calls Tryz.prog 74 #[.pointer (some ⟨g, 0, none⟩), .pointer (some ⟨g, k, none⟩), .int .i64 fr] w fun e w' => e = .returned (.func (.func 111) #[] #[.pointer (some ⟨w.heap.size, 0, none⟩), .pointer (some ⟨w.heap.size + 2, 0, none⟩), .pointer (some ⟨w.heap.size + 1, 0, none⟩)]) ∧
    w' = ((w.alloc (.cells #[.pointer (some ⟨g, 0, none⟩)] 57)).alloc (.cells #[.pointer (some ⟨g, k, none⟩)] 102)).alloc (.cells #[.int .i64 fr] 3) := by
  go_enter Tryz.func74, Tryz.ntmps74
  go_wp2_with fail
  go_ret
  exact ⟨by simp [Nat.add_assoc], rfl⟩
end Go.Proofs.YtcojnigkgbmbmaaGreatDoor
namespace Go.Proofs.YtcojnigkgbmbmaaGreatDoor
open Go Go.RowKit
attribute [local go_sem] Oper.semAt_some
end Go.Proofs.YtcojnigkgbmbmaaGreatDoor
namespace Go.Proofs.YtcojnigkgbmbmaaGreatDoor
open Go Go.RowKit
attribute [local go_sem] Oper.semAt_some
theorem ref08_Pair (a b : Int) (h : pairB (a, b) = true) (w : World) : Calls Tryz.prog 135 #[.agg #[.int .i64 a, .int .i64 b]] w fun e w' => e = .returned (.bool true) ∧ Below w.heap.size w w' := by
  unfold pairB at h
  simp only [Bool.and_eq_true] at h
  obtain ⟨⟨⟨⟨h1, h2⟩, h3⟩, h4⟩, h5⟩ := h
  go_enter Tryz.func135, Tryz.ntmps135
  go_wp2_with fail
  go_ret
  exact ⟨rfl, (Below.refl _ _).alloc (Nat.le_refl _) _⟩
theorem tab8_at (q : Nat) (h : q < 63) : ∃ p c, prs8[q]? = some p ∧ codes8[q]? = some c ∧ (tabL false).drop q = (p, c) :: (tabL false).drop (q + 1) := by
  have hk : q < (tabL false).length := by rw [tab_len]; exact h
  refine ⟨(tabL false)[q].1, (tabL false)[q].2, ?_, ?_, ?_⟩
  · unfold prs8
    rw [List.getElem?_map, List.getElem?_eq_getElem hk]
    rfl
  · unfold codes8
    rw [List.getElem?_map, List.getElem?_eq_getElem hk]
    rfl
  · exact List.drop_eq_getElem_cons hk
set_option maxRecDepth 100000 in
set_option maxHeartbeats 8000000 in
theorem ref08_code (a b : Int) (hab : -127 ≤ b ∧ b ≤ 127) (w : World) : Calls Tryz.prog 136 #[.agg #[.int .i64 a, .int .i64 b]] w fun e w' => e = .returned (.string (bs (shortC (a, b) (tabL false)))) ∧ Below w.heap.size w w' := by
  obtain ⟨R, hR⟩ : ∃ R, shortC (a, b) (tabL false) = R := ⟨_, rfl⟩
  rw [hR]
  have HR := Lib.hid hR
  have hwn : IntKind.i64.wrap (-b) = -b := by rw [IntKind.wrap_i64]; omega
  have Z0 := Blk.new w 109 #[.int .i64 a, .int .i64 b]
  have B0 := (Below.refl _ w).alloc (Nat.le_refl _) (.cells #[.int .i64 a, .int .i64 b] 109)
  have HZ0 := Lib.hid Z0; have HB0 := Lib.hid B0
  clear hR Z0 B0
  go_enter Tryz.func136, Tryz.ntmps136
  go_wp2_with fail
  refine (ref08_Coded _).mono ?_
  rintro e w3 ⟨w2, v1, v2, hb3, rfl, hz⟩
  obtain ⟨A1, c1, q1, s1⟩ := own_sl2 hz.2.2.head
  obtain ⟨A2, c2, q2, s2⟩ := own_sl hz.2.2.tail.head
  dsimp only at q1 q2
  subst q1 q2
  rw [prs8_len, codes8_len]
  have hb := hb3.trans (hz.1.mono hb3.size)
  have HB3 := Lib.hid (HB0.out.trans (hb.mono HB0.out.size))
  have HZ3 := Lib.hid (HZ0.out.below hb HZ0.out.lt)
  have HS1 := Lib.hid s1; have HS2 := Lib.hid s2
  obtain ⟨g1, hg1⟩ : ∃ g1, w.heap.size = g1 := ⟨_, rfl⟩
  rw [hg1] at HZ3 ⊢
  clear hb3 hz s1 s2 hb HZ0 HB0 hg1
  go_wp2_with fail
  go_loopg [5] 63 (fun g i => fun wr => ∃ (q : Nat), q + g = 63 ∧ i = .int .i64 (q : Int) ∧ Hid (shortC (a, b) ((tabL false).drop q) = R) ∧ Hid (Below w3.heap.size w3 wr))
  case atStart => exact ⟨0, by omega, rfl, HR, Lib.hid (Below.refl _ _)⟩
  case round =>
    obtain ⟨q, hq, rfl, HF, HW⟩ := hrel
    cases gk with
    | zero =>
      obtain rfl : q = 63 := by omega
      have hR := HF.out
      rw [show (tabL false).drop 63 = [] by kernel_rfl] at hR
      subst hR
      have HBW := Lib.hid (HB3.out.trans (HW.out.mono HB3.out.size))
      clear HF HR
      go_wp2_with fail
      go_ret
      exact ⟨rfl, HBW.out⟩
    | succ g =>
      have hlt : ((q : Int) < 63) := by omega
      obtain ⟨p, cc, hp, hcc, hd⟩ := tab8_at q (by omega)
      have hR := HF.out
      rw [hd] at hR
      unfold shortC at hR
      have x1 := HS1.out.below HW.out
      have x2 := HS2.out.below HW.out
      have x3 := HZ3.out.below HW.out HZ3.out.lt
      obtain ⟨ad, rfl, _, d0, d1⟩ := sl_pair x1 q (by rw [prs8_len]; omega)
      obtain ⟨ae, rfl, _, d2⟩ := x2 q (strV cc) (by rw [List.getElem?_map, hcc]; rfl)
      rw [show prs8[q]'(by rw [prs8_len]; omega) = p by rw [List.getElem?_eq_getElem (by rw [prs8_len]; omega)] at hp; exact Option.some.inj hp] at d0 d1
      unfold strV at d2
      have y0 := x3.cell 0; have y1 := x3.cell 1
      (try dsimp only at y0 y1)
      obtain ⟨pa, pb⟩ := p
      dsimp only at d0 d1 hR
      have hS : (wr.cell? (ad.add (q * 2)) = some (.int .i64 pa) ∧ wr.cell? ⟨(ad.add (q * 2)).block, (ad.add (q * 2)).off + 1, none⟩ = some (.int .i64 pb) ∧ wr.cell? ⟨g1, 0, none⟩ = some (.int .i64 a) ∧ wr.cell? ⟨g1, 1, none⟩ = some (.int .i64 b)) := ⟨d0, d1, y0, y1⟩
      have HSS := Lib.hid hS
      have HRR := Lib.hid hR
      have HWD := Lib.hid HW.out.drew
      have HQ := Lib.hid hq
      clear x1 x2 x3 hd hp hcc hR hS HF d0 d1 y0 y1 hq
      cases e1 : (pa == a) with
      | false =>
        have hR := HRR.out
        rw [e1, Bool.false_and, if_neg Bool.false_ne_true] at hR
        have HN := Lib.hid hR
        clear hR HRR
        go_wp2_with fail
        refine wp_region_plan2 (fun w' => w'.cell? (ad.add (q * 2)) = some (.int .i64 pa) ∧ w'.cell? ⟨(ad.add (q * 2)).block, (ad.add (q * 2)).off + 1, none⟩ = some (.int .i64 pb) ∧ w'.cell? ⟨g1, 0, none⟩ = some (.int .i64 a) ∧ w'.cell? ⟨g1, 1, none⟩ = some (.int .i64 b)) 29 [(0, true), (1, true), (2, true), (3, true), (4, true), (5, true), (6, true), (7, true), (8, true), (9, true), (10, true), (11, true), (12, true), (13, true), (14, true), (15, true), (16, true), (17, true), (18, true), (19, true), (20, true), (21, true), (22, true), (23, true), (24, true), (25, true), (26, true), (27, true), (28, true)] (by kernel_rfl) (by kernel_rfl) (fun _ _ d _ _ h => by cases d <;> exact h) (by decide) (by simp only [List.map_cons, List.map_nil, Array.getD_eq_getD_getElem?, List.getElem?_toArray, List.getElem?_cons_zero, List.getElem?_cons_succ, Option.getD_some]; rfl) (by simp only [List.map_cons, List.map_nil]; rfl) (HSS.out) (fun PE hPE => ?_)
        iterate 9
          refine plan_take (v := ?_) rfl (by rfl) ?_ ?_
          rotate_left
          · intro _ hSw; (try dsimp only at hSw); obtain ⟨u0, u1, u2, u3⟩ := hSw; go_simp; (try with_reducible rfl)
          simp only [List.setIfInBounds_toArray, List.set_cons_zero, List.set_cons_succ]
        iterate 19
          refine plan_pass rfl (by rfl) ?_
          simp only [List.setIfInBounds_toArray, List.set_cons_zero, List.set_cons_succ]
        refine plan_take (v := ?_) rfl (by rfl) ?_ ?_
        rotate_left
        · intro _ hSw; (try dsimp only at hSw); go_simp; (try with_reducible rfl)
        simp only [List.setIfInBounds_toArray, List.set_cons_zero, List.set_cons_succ]
        (refine hPE _ _ ?_; simp only [List.drop_succ_cons, List.drop_zero]; clear hPE PE)
        go_wp2_with fail
        go_roundg g
        case measure => omega
        case rel => exact ⟨q + 1, by have := HQ.out; omega, rfl, HN, HWD⟩
      | true =>
        cases e2 : (pb == b) with
        | true =>
          have hR := HRR.out
          rw [e1, e2, Bool.true_or, Bool.and_true, if_pos rfl] at hR
          subst hR
          have HBW := Lib.hid (HB3.out.trans (HWD.out.mono HB3.out.size))
          have d3 : wr.drew.cell? (ae.add q) = some (.string (bs cc)) := d2
          clear HRR HR d2
          go_wp2_with fail
          refine wp_region_plan2 (fun w' => w'.cell? (ad.add (q * 2)) = some (.int .i64 pa) ∧ w'.cell? ⟨(ad.add (q * 2)).block, (ad.add (q * 2)).off + 1, none⟩ = some (.int .i64 pb) ∧ w'.cell? ⟨g1, 0, none⟩ = some (.int .i64 a) ∧ w'.cell? ⟨g1, 1, none⟩ = some (.int .i64 b)) 29 [(0, true), (1, true), (2, true), (3, true), (4, true), (5, true), (6, true), (7, true), (8, true), (9, true), (10, true), (11, true), (12, true), (13, true), (14, true), (15, true), (16, true), (17, true), (18, true), (19, true), (20, true), (21, true), (22, true), (23, true), (24, true), (25, true), (26, true), (27, true), (28, true)] (by kernel_rfl) (by kernel_rfl) (fun _ _ d _ _ h => by cases d <;> exact h) (by decide) (by simp only [List.map_cons, List.map_nil, Array.getD_eq_getD_getElem?, List.getElem?_toArray, List.getElem?_cons_zero, List.getElem?_cons_succ, Option.getD_some]; rfl) (by simp only [List.map_cons, List.map_nil]; rfl) (HSS.out) (fun PE hPE => ?_)
          iterate 18
            refine plan_take (v := ?_) rfl (by rfl) ?_ ?_
            rotate_left
            · intro _ hSw; (try dsimp only at hSw); obtain ⟨u0, u1, u2, u3⟩ := hSw; go_simp; (try with_reducible rfl)
            simp only [List.setIfInBounds_toArray, List.set_cons_zero, List.set_cons_succ]
          iterate 9
            refine plan_pass rfl (by rfl) ?_
            simp only [List.setIfInBounds_toArray, List.set_cons_zero, List.set_cons_succ]
          iterate 2
            refine plan_take (v := ?_) rfl (by rfl) ?_ ?_
            rotate_left
            · intro _ hSw; (try dsimp only at hSw); go_simp; (try with_reducible rfl)
            simp only [List.setIfInBounds_toArray, List.set_cons_zero, List.set_cons_succ]
          (refine hPE _ _ ?_; simp only [List.drop_succ_cons, List.drop_zero]; clear hPE PE)
          go_wp2_with fail
          go_ret
          exact ⟨rfl, HBW.out⟩
        | false =>
          cases e3 : (pb == -b) with
          | true =>
            have hR := HRR.out
            rw [e1, e3, Bool.or_true, Bool.and_true, if_pos rfl] at hR
            subst hR
            have HBW := Lib.hid (HB3.out.trans (HWD.out.mono HB3.out.size))
            have d3 : wr.drew.cell? (ae.add q) = some (.string (bs cc)) := d2
            clear HRR HR d2
            go_wp2_with fail
            refine wp_region_plan2 (fun w' => w'.cell? (ad.add (q * 2)) = some (.int .i64 pa) ∧ w'.cell? ⟨(ad.add (q * 2)).block, (ad.add (q * 2)).off + 1, none⟩ = some (.int .i64 pb) ∧ w'.cell? ⟨g1, 0, none⟩ = some (.int .i64 a) ∧ w'.cell? ⟨g1, 1, none⟩ = some (.int .i64 b)) 29 [(0, true), (1, true), (2, true), (3, true), (4, true), (5, true), (6, true), (7, true), (8, true), (9, true), (10, true), (11, true), (12, true), (13, true), (14, true), (15, true), (16, true), (17, true), (18, true), (19, true), (20, true), (21, true), (22, true), (23, true), (24, true), (25, true), (26, true), (27, true), (28, true)] (by kernel_rfl) (by kernel_rfl) (fun _ _ d _ _ h => by cases d <;> exact h) (by decide) (by simp only [List.map_cons, List.map_nil, Array.getD_eq_getD_getElem?, List.getElem?_toArray, List.getElem?_cons_zero, List.getElem?_cons_succ, Option.getD_some]; rfl) (by simp only [List.map_cons, List.map_nil]; rfl) (HSS.out) (fun PE hPE => ?_)
            iterate 29
              refine plan_take (v := ?_) rfl (by rfl) ?_ ?_
              rotate_left
              · intro _ hSw; (try dsimp only at hSw); obtain ⟨u0, u1, u2, u3⟩ := hSw; go_simp; (try with_reducible rfl)
              simp only [List.setIfInBounds_toArray, List.set_cons_zero, List.set_cons_succ]
            (refine hPE _ _ ?_; simp only [List.drop_succ_cons, List.drop_zero]; clear hPE PE)
            go_wp2_with fail
            go_ret
            exact ⟨rfl, HBW.out⟩
          | false =>
            have hR := HRR.out
            rw [e2, e3, Bool.or_false, Bool.and_false, if_neg Bool.false_ne_true] at hR
            have HN := Lib.hid hR
            clear hR HRR
            go_wp2_with fail
            refine wp_region_plan2 (fun w' => w'.cell? (ad.add (q * 2)) = some (.int .i64 pa) ∧ w'.cell? ⟨(ad.add (q * 2)).block, (ad.add (q * 2)).off + 1, none⟩ = some (.int .i64 pb) ∧ w'.cell? ⟨g1, 0, none⟩ = some (.int .i64 a) ∧ w'.cell? ⟨g1, 1, none⟩ = some (.int .i64 b)) 29 [(0, true), (1, true), (2, true), (3, true), (4, true), (5, true), (6, true), (7, true), (8, true), (9, true), (10, true), (11, true), (12, true), (13, true), (14, true), (15, true), (16, true), (17, true), (18, true), (19, true), (20, true), (21, true), (22, true), (23, true), (24, true), (25, true), (26, true), (27, true), (28, true)] (by kernel_rfl) (by kernel_rfl) (fun _ _ d _ _ h => by cases d <;> exact h) (by decide) (by simp only [List.map_cons, List.map_nil, Array.getD_eq_getD_getElem?, List.getElem?_toArray, List.getElem?_cons_zero, List.getElem?_cons_succ, Option.getD_some]; rfl) (by simp only [List.map_cons, List.map_nil]; rfl) (HSS.out) (fun PE hPE => ?_)
            iterate 29
              refine plan_take (v := ?_) rfl (by rfl) ?_ ?_
              rotate_left
              · intro _ hSw; (try dsimp only at hSw); obtain ⟨u0, u1, u2, u3⟩ := hSw; go_simp; (try with_reducible rfl)
              simp only [List.setIfInBounds_toArray, List.set_cons_zero, List.set_cons_succ]
            (refine hPE _ _ ?_; simp only [List.drop_succ_cons, List.drop_zero]; clear hPE PE)
            go_wp2_with fail
            go_roundg g
            case measure => omega
            case rel => exact ⟨q + 1, by have := HQ.out; omega, rfl, HN, HWD⟩
theorem digL_cons (n m : Nat) : digL n (m + 1) = (if n / 2 ^ m % 2 = 0 then 48 else 49) :: digL n m := by
  unfold digL
  rw [List.range_succ_eq_map, List.map_cons, List.map_map]
  congr 1
  apply List.map_congr_left
  intro j hj
  show (if n / 2 ^ (m + 1 - 1 - (j + 1)) % 2 = 0 then _ else _) = _
  rw [show m + 1 - 1 - (j + 1) = m - 1 - j by omega]
set_option maxHeartbeats 1000000 in
theorem ref08_bits (n m : Nat) (hn : n < 2 ^ 32) (hm : m ≤ 32) (w : World) : Calls Tryz.prog 161 #[.int .i64 (n : Int), .int .i64 (m : Int)] w fun e w' => e = .returned (.string (bs (digL n m))) ∧ Below w.heap.size w w' := by
  have hcv : ∀ (W : World) (A : Option Addr) (l : List UInt8) (n c : Nat), Sl W A (l.map byteV) → l.length = n → (convert 22 9 (.slice A n c)).run Tryz.prog W = .ok (.string (bs l)) W := fun W A l n c h hn => run_bytes_str (P := Tryz.prog) 22 9 5 (by kernel_rfl) (by kernel_rfl) (by kernel_rfl) h n c hn
  have Hcv := Lib.hid hcv; clear hcv
  have HNN := Lib.hid hn
  go_enter Tryz.func161, Tryz.ntmps161
  go_wp2_with fail
  go_loopg [0, 5, 6] m (fun g y t s => fun wx => ∃ (q : Nat), q + g = m ∧ y = .int .i64 ((n / 2 ^ q : Nat) : Int) ∧ t = .string (bs (digL n q)) ∧ s = .int .i64 (q : Int) ∧ Below w.heap.size w wx)
  case atStart => exact ⟨0, by omega, by simp, by simp [bs, digL], rfl, Below.refl _ _⟩
  case round =>
    obtain ⟨q, hq, rfl, rfl, rfl, hb⟩ := hrel
    cases gk with
    | zero =>
      obtain rfl : q = m := by omega
      have hlt : ¬ ((q : Int) < (q : Int)) := by omega
      go_wp2_with fail
      go_ret
      exact ⟨rfl, hb⟩
    | succ g =>
      have hlt : ((q : Int) < (m : Int)) := by omega
      have HSN := Lib.hid (digL_cons n q)
      have hdl := digL_len n q
      obtain ⟨y, hy⟩ : ∃ y, n / 2 ^ q = y := ⟨_, rfl⟩
      have hy2 : n / 2 ^ (q + 1) = y / 2 := by rw [← hy, Nat.pow_succ, Nat.div_div_eq_div_mul]
      have hy32 : y < 4294967296 := by
        have h1 : y ≤ n := by rw [← hy]; exact Nat.div_le_self _ _
        have := HNN.out
        omega
      rw [hy] at HSN ⊢
      have HY2 := Lib.hid hy2
      obtain ⟨L, hL⟩ : ∃ L, digL n q = L := ⟨_, rfl⟩
      rw [hL] at HSN hdl ⊢
      obtain ⟨z, hz⟩ : ∃ z, y / 2 = z := ⟨_, rfl⟩
      rw [hz] at HY2
      have hzi : (y : Int) / 2 = (z : Int) := by omega
      have hy0 : (0 : Int) ≤ (y : Int) := by omega
      have hwz : IntKind.i64.wrap (z : Int) = (z : Int) := by rw [IntKind.wrap_i64]; omega
      have HQ := Lib.hid hq
      have hL32 : L.length ≤ 32 := by omega
      have hw1 : IntKind.i64.wrap ((q : Int) + 1) = (q : Int) + 1 := by rw [IntKind.wrap_i64]; omega
      clear hy hy2 hL hz hq hdl
      by_cases hz : y % 2 = 0
      · have hm2 : (y : Int) % 2 = 0 := by omega
        rw [if_pos hz] at HSN
        have hcv1 := Hcv.out (wr.alloc (.cells #[.int .u8 48] 5)) (some ⟨wr.heap.size, 0, none⟩) [48] 1 1 (Blk.sl (Blk.new wr 5 #[.int .u8 48]) 0) rfl
        clear hz
        go_wp2_with fail
        go_roundg g
        case measure => omega
        case rel => exact ⟨q + 1, by have := HQ.out; omega, by rw [HY2.out], by rw [HSN.out], rfl, hb.alloc hb.size _⟩
      · have hm2 : (y : Int) % 2 = 1 := by omega
        rw [if_neg hz] at HSN
        have hcv1 := Hcv.out (wr.alloc (.cells #[.int .u8 49] 5)) (some ⟨wr.heap.size, 0, none⟩) [49] 1 1 (Blk.sl (Blk.new wr 5 #[.int .u8 49]) 0) rfl
        clear hz
        go_wp2_with fail
        go_roundg g
        case measure => omega
        case rel => exact ⟨q + 1, by have := HQ.out; omega, by rw [HY2.out], by rw [HSN.out], rfl, hb.alloc hb.size _⟩
end Go.Proofs.YtcojnigkgbmbmaaGreatDoor
namespace Go.Proofs.YtcojnigkgbmbmaaGreatDoor
open Go Go.RowKit
attribute [local go_sem] Oper.semAt_some
set_option maxRecDepth 100000 in
set_option maxHeartbeats 2000000 in
theorem ref08_Escape (a b : Int) (w : World) (hp : pairB (a, b) = true) : Calls Tryz.prog 137 #[.agg #[.int .i64 a, .int .i64 b]] w fun e w' => e = .returned (.tuple #[.string (bs (escP (a, b))), .int .i64 0]) ∧ Below w.heap.size w w' := by
  have CPr := Lib.hid (fun W => ref08_Pair a b hp W)
  unfold pairB at hp
  simp only [Bool.and_eq_true, decide_eq_true_eq] at hp
  obtain ⟨⟨⟨⟨h1, h2⟩, h3⟩, h4⟩, _⟩ := hp
  obtain ⟨r, rfl⟩ := Int.eq_ofNat_of_zero_le h1
  unfold escP
  dsimp only at CPr ⊢
  rw [Int.toNat_natCast]
  obtain ⟨u, hu⟩ : ∃ u : Nat, b % 256 = (u : Int) := ⟨(b % 256).toNat, by omega⟩
  have hu2 : u < 256 := by omega
  rw [hu, Int.toNat_natCast]
  have C1 := Lib.hid (fun W => ref08_bits r 6 (by omega) (by decide) W)
  have C2 := Lib.hid (fun W => ref08_bits u 8 (by omega) (by decide) W)
  have hwb : IntKind.i64.wrap (b + 256) = b + 256 := by rw [IntKind.wrap_i64]; omega
  have hb0 : 0 ≤ b + 256 := by omega
  have hmod : (b + 256) % 256 = (u : Int) := by omega
  have hmod2 : (b + 256).tmod 256 = (u : Int) := by rw [Int.tmod_eq_emod_of_nonneg hb0]; exact hmod
  have hd6 : (digL r 6).length = 6 := by simp [digL]
  have hd8 : (digL u 8).length = 8 := by simp [digL]
  clear h1 hu
  go_enter Tryz.func137, Tryz.ntmps137
  go_wp2_with (go_at_call 135; refine (CPr.out _).mono ?_; rintro e w1 ⟨rfl, hb1⟩; have hlt := ((Blk.new w 109 #[.int .i64 (r : Int), .int .i64 b]).below hb1 (Blk.new w 109 #[.int .i64 (r : Int), .int .i64 b]).lt); have y0 := hlt.cell 0; have y1 := hlt.cell 1; have HB1 := Lib.hid hb1; have HL := Lib.hid hlt; clear hb1 hlt)
  have hA : Below w.heap.size w (w.alloc (.cells #[.int .i64 (r : Int), .int .i64 b] 109)) := (Below.refl w.heap.size w).alloc (Nat.le_refl _) _
  have hA1 := (hA.trans (HB1.out.mono hA.size)).drew
  have HBa := Lib.hid hA1
  clear hA hA1
  refine wp_region_treeN (fun w' => w'.cell? ⟨w.heap.size, 0, none⟩ = some (.int .i64 (r : Int)) ∧ w'.cell? ⟨w.heap.size, 1, none⟩ = some (.int .i64 b)) 12 (.take 0 (.take 1 (.take 4 (.take 5 (.take 6 (.take 7 (.step 2 (.take 3 (.step 8 (.take 9 (.step 10 (.step 11 .done)))))))))))) (by kernel_rfl) (by kernel_rfl) (by simp only [Pln.out, Array.getD_eq_getD_getElem?, List.getElem?_toArray, List.getElem?_cons_zero, List.getElem?_cons_succ, Option.getD_some]; rfl) (by simp only [List.map_cons, List.map_nil]; rfl) (⟨y0, y1⟩) (fun PE hPE => ?_)
  iterate 6
    refine tree_take (v := ?_) rfl (by rfl) ?_ ?_
    rotate_left
    · intro _ hSw; (try dsimp only at hSw); obtain ⟨s0, s1⟩ := hSw; go_simp; (try with_reducible rfl)
    simp only [List.setIfInBounds_toArray, List.set_cons_zero, List.set_cons_succ]
  refine tree_call (f := 161) (args := #[.int .i64 (r : Int), .int .i64 6]) rfl (by rfl) ?_ (C1.out _) (fun e w2 hr => ?_)
  · go_simp
  obtain ⟨rfl, hb2⟩ := hr
  have hL2 : Blk w2 w.heap.size 109 #[.int .i64 (r : Int), .int .i64 b] := (HL.out.drew1).below hb2 HL.out.lt
  have HBb := Lib.hid (HBa.out.trans (hb2.mono HBa.out.size))
  refine ⟨_, rfl, _, fun _ h => h, ⟨hL2.cell 0, hL2.cell 1⟩, ?_⟩
  simp only [List.setIfInBounds_toArray, List.set_cons_zero, List.set_cons_succ]
  refine tree_take (v := ?_) rfl (by rfl) ?_ ?_
  rotate_left
  · intro _ hSw; (try dsimp only at hSw); go_simp; (try with_reducible rfl)
  simp only [List.setIfInBounds_toArray, List.set_cons_zero, List.set_cons_succ]
  refine tree_call (f := 161) (args := #[.int .i64 (u : Int), .int .i64 8]) rfl (by rfl) ?_ (C2.out _) (fun e w3 hr => ?_)
  · go_simp
  obtain ⟨rfl, hb3⟩ := hr
  have hL3 : Blk w3 w.heap.size 109 #[.int .i64 (r : Int), .int .i64 b] := hL2.below hb3 hL2.lt
  have HBc := Lib.hid (HBb.out.trans (hb3.mono HBb.out.size))
  refine ⟨_, rfl, _, fun _ h => h, ⟨hL3.cell 0, hL3.cell 1⟩, ?_⟩
  simp only [List.setIfInBounds_toArray, List.set_cons_zero, List.set_cons_succ]
  refine tree_take (v := ?_) rfl (by rfl) ?_ ?_
  rotate_left
  · intro _ hSw; (try dsimp only at hSw); go_simp; (try with_reducible rfl)
  simp only [List.setIfInBounds_toArray, List.set_cons_zero, List.set_cons_succ]
  refine tree_value (v := ?_) (w' := ?_) rfl (by rfl) ?_ ?_ ?_
  rotate_left 2
  · go_simp; (try (constructor <;> with_reducible rfl))
  · exact ⟨hL3.cell 0, hL3.cell 1⟩
  simp only [List.setIfInBounds_toArray, List.set_cons_zero, List.set_cons_succ]
  refine tree_value (v := ?_) (w' := ?_) rfl (by rfl) ?_ ?_ ?_
  rotate_left 2
  · go_simp; (try (constructor <;> with_reducible rfl))
  · exact ⟨hL3.cell 0, hL3.cell 1⟩
  simp only [List.setIfInBounds_toArray, List.set_cons_zero, List.set_cons_succ]
  refine hPE _ _ ?_
  clear hPE PE
  simp only [List.drop_succ_cons, List.drop_zero, List.drop_nil]
  clear hb2 hb3 hL2 hL3 y0 y1
  go_wp2_with fail
  refine ⟨rfl, ?_⟩
  go_wp2_with fail
  go_ret2
  refine ⟨?_, HBc.out⟩
  show Ending.returned (.tuple #[.string (bs escC ++ bs (digL r 6) ++ bs (digL u 8)), .int .i64 0]) = _
  rw [bs_join, bs_join]
set_option maxRecDepth 100000 in
set_option maxHeartbeats 4000000 in
theorem ref08_Put (a b : Int) (first : Bool) (w : World) (hp : pairB (a, b) = true) : Calls Tryz.prog 103 #[.agg #[.int .i64 a, .int .i64 b], .bool first] w fun e w' => e = .returned (.tuple #[.string (bs (put8 (a, b) first)), .int .i64 0]) ∧ Below w.heap.size w w' := by
  have CPr := Lib.hid (fun W => ref08_Pair a b hp W)
  have CE := Lib.hid (fun W => ref08_Escape a b W hp)
  have hab : -127 ≤ b ∧ b ≤ 127 := by
    unfold pairB at hp
    simp only [Bool.and_eq_true, decide_eq_true_eq] at hp
    exact ⟨hp.1.1.2, hp.1.2⟩
  have CC := Lib.hid (fun W => ref08_code a b hab W)
  have hl := shortC_len (a, b) (tabL false) (tabL_len false)
  unfold put8
  obtain ⟨s, hs⟩ : ∃ s, shortC (a, b) (tabL false) = s := ⟨_, rfl⟩
  rw [hs] at CC hl ⊢
  obtain ⟨ec, hec⟩ : ∃ ec, escP (a, b) = ec := ⟨_, rfl⟩
  rw [hec] at CE ⊢
  clear hp hs hec
  dsimp only
  have hA : Below w.heap.size w (w.alloc (.cells #[.int .i64 a, .int .i64 b] 109)) := (Below.refl w.heap.size w).alloc (Nat.le_refl _) _
  have HA := Lib.hid hA
  have HB := Lib.hid (Blk.new w 109 #[.int .i64 a, .int .i64 b])
  clear hA hab
  by_cases h0 : s = []
  · subst h0
    rw [if_pos (by rfl)]
    clear hl
    go_enter Tryz.func103, Tryz.ntmps103
    go_wp2_with (first
      | (go_at_call 135; refine (CPr.out _).mono ?_; rintro e w1 ⟨rfl, hb1⟩; have hl := HB.out.below hb1 HB.out.lt; have y0 := hl.cell 0; have y1 := hl.cell 1; have HB1 := Lib.hid (HA.out.trans (hb1.mono HA.out.size)); have HL := Lib.hid hl; clear hb1 hl)
      | (go_at_call 136; refine (CC.out _).mono ?_; rintro e w2 ⟨rfl, hb2⟩; have hl2 := HL.out.below hb2 HL.out.lt; have z0 := hl2.cell 0; have z1 := hl2.cell 1; have HB2 := Lib.hid (HB1.out.trans (hb2.mono HB1.out.size)); clear hb2 hl2)
      | (go_at_call 137; refine (CE.out _).mono ?_; rintro e w3 ⟨rfl, hb3⟩; have HB3 := Lib.hid (HB2.out.trans (hb3.mono HB2.out.size)); clear hb3))
    go_ret2
    exact ⟨rfl, HB3.out⟩
  · have e1 : (s == []) = false := by simpa using h0
    have e2 : s.isEmpty = false := by simpa using h0
    rw [if_neg (by rw [e1]; decide)]
    have hl100 : s.length ≤ 100 := by omega
    clear h0 hl
    by_cases h1 : first = true ∧ s = [49, 49]
    · obtain ⟨rfl, rfl⟩ := h1
      rw [if_pos (by rfl)]
      by_cases hb : b < 0
      · have d1 : decide (b < 0) = true := decide_eq_true hb
        rw [if_pos hb]
        clear hb
        go_enter Tryz.func103, Tryz.ntmps103
        go_wp2_with (first
          | (go_at_call 135; refine (CPr.out _).mono ?_; rintro e w1 ⟨rfl, hb1⟩; have hl := HB.out.below hb1 HB.out.lt; have y0 := hl.cell 0; have y1 := hl.cell 1; have HB1 := Lib.hid (HA.out.trans (hb1.mono HA.out.size)); have HL := Lib.hid hl; clear hb1 hl)
          | (go_at_call 136; refine (CC.out _).mono ?_; rintro e w2 ⟨rfl, hb2⟩; have hl2 := HL.out.below hb2 HL.out.lt; have z0 := hl2.cell 0; have z1 := hl2.cell 1; have HB2 := Lib.hid (HB1.out.trans (hb2.mono HB1.out.size)); clear hb2 hl2))
        go_ret2
        refine ⟨?_, HB2.out⟩
        first | rfl | (rw [← bs_join]; rfl)
      · have d1 : decide (b < 0) = false := decide_eq_false hb
        rw [if_neg hb]
        clear hb
        go_enter Tryz.func103, Tryz.ntmps103
        go_wp2_with (first
          | (go_at_call 135; refine (CPr.out _).mono ?_; rintro e w1 ⟨rfl, hb1⟩; have hl := HB.out.below hb1 HB.out.lt; have y0 := hl.cell 0; have y1 := hl.cell 1; have HB1 := Lib.hid (HA.out.trans (hb1.mono HA.out.size)); have HL := Lib.hid hl; clear hb1 hl)
          | (go_at_call 136; refine (CC.out _).mono ?_; rintro e w2 ⟨rfl, hb2⟩; have hl2 := HL.out.below hb2 HL.out.lt; have z0 := hl2.cell 0; have z1 := hl2.cell 1; have HB2 := Lib.hid (HB1.out.trans (hb2.mono HB1.out.size)); clear hb2 hl2))
        go_ret2
        refine ⟨?_, HB2.out⟩
        first | rfl | (rw [← bs_join]; rfl)
    · have hc : (first && s == [49, 49]) = false := by
        cases first with
        | false => rfl
        | true => simp at h1 ⊢; exact h1
      rw [hc, if_neg Bool.false_ne_true]
      cases first with
      | true =>
        have e3 : (s == [49, 49]) = false := by simpa using hc
        clear hc h1
        by_cases hb : b < 0
        · have d1 : decide (b < 0) = true := decide_eq_true hb
          rw [if_pos hb]
          clear hb
          go_enter Tryz.func103, Tryz.ntmps103
          go_wp2_with (first
            | (go_at_call 135; refine (CPr.out _).mono ?_; rintro e w1 ⟨rfl, hb1⟩; have hl := HB.out.below hb1 HB.out.lt; have y0 := hl.cell 0; have y1 := hl.cell 1; have HB1 := Lib.hid (HA.out.trans (hb1.mono HA.out.size)); have HL := Lib.hid hl; clear hb1 hl)
            | (go_at_call 136; refine (CC.out _).mono ?_; rintro e w2 ⟨rfl, hb2⟩; have hl2 := HL.out.below hb2 HL.out.lt; have z0 := hl2.cell 0; have z1 := hl2.cell 1; have HB2 := Lib.hid (HB1.out.trans (hb2.mono HB1.out.size)); clear hb2 hl2))
          go_ret2
          refine ⟨?_, HB2.out⟩
          first | rfl | (rw [← bs_join]; rfl)
        · have d1 : decide (b < 0) = false := decide_eq_false hb
          rw [if_neg hb]
          clear hb
          go_enter Tryz.func103, Tryz.ntmps103
          go_wp2_with (first
            | (go_at_call 135; refine (CPr.out _).mono ?_; rintro e w1 ⟨rfl, hb1⟩; have hl := HB.out.below hb1 HB.out.lt; have y0 := hl.cell 0; have y1 := hl.cell 1; have HB1 := Lib.hid (HA.out.trans (hb1.mono HA.out.size)); have HL := Lib.hid hl; clear hb1 hl)
            | (go_at_call 136; refine (CC.out _).mono ?_; rintro e w2 ⟨rfl, hb2⟩; have hl2 := HL.out.below hb2 HL.out.lt; have z0 := hl2.cell 0; have z1 := hl2.cell 1; have HB2 := Lib.hid (HB1.out.trans (hb2.mono HB1.out.size)); clear hb2 hl2))
          go_ret2
          refine ⟨?_, HB2.out⟩
          first | rfl | (rw [← bs_join]; rfl)
      | false =>
        clear hc h1
        by_cases hb : b < 0
        · have d1 : decide (b < 0) = true := decide_eq_true hb
          rw [if_pos hb]
          clear hb
          go_enter Tryz.func103, Tryz.ntmps103
          go_wp2_with (first
            | (go_at_call 135; refine (CPr.out _).mono ?_; rintro e w1 ⟨rfl, hb1⟩; have hl := HB.out.below hb1 HB.out.lt; have y0 := hl.cell 0; have y1 := hl.cell 1; have HB1 := Lib.hid (HA.out.trans (hb1.mono HA.out.size)); have HL := Lib.hid hl; clear hb1 hl)
            | (go_at_call 136; refine (CC.out _).mono ?_; rintro e w2 ⟨rfl, hb2⟩; have hl2 := HL.out.below hb2 HL.out.lt; have z0 := hl2.cell 0; have z1 := hl2.cell 1; have HB2 := Lib.hid (HB1.out.trans (hb2.mono HB1.out.size)); clear hb2 hl2))
          go_ret2
          refine ⟨?_, HB2.out⟩
          first | rfl | (rw [← bs_join]; rfl)
        · have d1 : decide (b < 0) = false := decide_eq_false hb
          rw [if_neg hb]
          clear hb
          go_enter Tryz.func103, Tryz.ntmps103
          go_wp2_with (first
            | (go_at_call 135; refine (CPr.out _).mono ?_; rintro e w1 ⟨rfl, hb1⟩; have hl := HB.out.below hb1 HB.out.lt; have y0 := hl.cell 0; have y1 := hl.cell 1; have HB1 := Lib.hid (HA.out.trans (hb1.mono HA.out.size)); have HL := Lib.hid hl; clear hb1 hl)
            | (go_at_call 136; refine (CC.out _).mono ?_; rintro e w2 ⟨rfl, hb2⟩; have hl2 := HL.out.below hb2 HL.out.lt; have z0 := hl2.cell 0; have z1 := hl2.cell 1; have HB2 := Lib.hid (HB1.out.trans (hb2.mono HB1.out.size)); clear hb2 hl2))
          go_ret2
          refine ⟨?_, HB2.out⟩
          first | rfl | (rw [← bs_join]; rfl)
end Go.Proofs.YtcojnigkgbmbmaaGreatDoor
namespace Go.Proofs.YtcojnigkgbmbmaaGreatDoor
open Go Go.RowKit
attribute [local go_sem] Oper.semAt_some
theorem ref12_first (intra : Bool) (w : World) : Calls Tryz.prog 84 #[.bool intra] w fun e w' => e = .returned (.int .i64 (frstP intra)) ∧ w = w' := by
  cases intra
  all_goals
    go_enter Tryz.func84, Tryz.ntmps84
    go_wp2_with fail
    go_ret
    exact ⟨rfl, rfl⟩
def codB (n : Int) : Bool := decide (1 ≤ n) && decide (n ≤ 255) && n != 128
theorem ref12_code (n : Int) (w : World) : Calls Tryz.prog 85 #[.int .i64 n] w fun e w' => e = .returned (.bool (codB n)) ∧ w = w' := by
  unfold codB
  cases a : decide (1 ≤ n) with
  | false =>
    go_enter Tryz.func85, Tryz.ntmps85
    go_wp2_with fail
    go_ret
    exact ⟨rfl, rfl⟩
  | true =>
    cases b : decide (n ≤ 255) with
    | false =>
      go_enter Tryz.func85, Tryz.ntmps85
      go_wp2_with fail
      go_ret
      exact ⟨rfl, rfl⟩
    | true =>
      cases c : (n != 128) with
      | false =>
        go_enter Tryz.func85, Tryz.ntmps85
        go_wp2_with fail
        go_ret
        exact ⟨rfl, rfl⟩
      | true =>
        go_enter Tryz.func85, Tryz.ntmps85
        go_wp2_with fail
        go_ret
        exact ⟨rfl, rfl⟩
theorem codB_not (n : Int) : (decide (n < 1) || decide (255 < n) || n == 128) = !codB n := by
  unfold codB
  rw [Bool.eq_iff_iff]
  simp
  try omega
set_option maxRecDepth 100000 in
set_option maxHeartbeats 8000000 in
theorem ref12_Check (dc : Int) (l : List (Int × Int)) (A : Option Addr) (n c : Nat) (intra : Bool) (w : World) (hS : Sl w A (rowC pairC l)) (hn : l.length = n) (hsz : n ≤ 1099511627776) : Calls Tryz.prog 65 #[.agg #[.int .i64 dc, .slice A n c], .bool intra] w fun e w' => e = .returned (.int .i64 (bchkP ⟨dc, l⟩ intra)) ∧ Below w.heap.size w w' := by
  have hfr : frstP intra = 0 ∨ frstP intra = 1 := by cases intra; exact .inl rfl; exact .inr rfl
  have C1 := Lib.hid (fun W => ref12_first intra W)
  have C2 := Lib.hid (fun W hW => ref09_Spread l A n c (frstP intra) hfr W hW hn hsz)
  have C3 := Lib.hid (fun W => ref12_code dc W)
  unfold bchkP
  dsimp only
  rw [codB_not]
  obtain ⟨cb, hcb⟩ : ∃ cb, codB dc = cb := ⟨_, rfl⟩
  rw [hcb] at C3 ⊢
  have hl0 : (l == []) = (n == 0) := by cases l <;> simp at hn ⊢ <;> omega
  rw [hl0]
  have HS := Lib.hid hS
  have z0 := Blk.new w 81 #[.int .i64 dc, .slice A n c]
  have b0 := (Below.refl _ w).alloc (Nat.le_refl _) (.cells #[.int .i64 dc, .slice A n c] 81)
  have HZ0 := Lib.hid z0; have HB0 := Lib.hid b0
  obtain ⟨fr, hfr2⟩ : ∃ fr, frstP intra = fr := ⟨_, rfl⟩
  rw [hfr2] at C1 C2 ⊢
  obtain ⟨sp, hsp⟩ : ∃ sp, spreadP l fr = sp := ⟨_, rfl⟩
  have HSP := Lib.hid hsp
  rw [hsp]
  have HZD := Lib.hid (show Blk (w.alloc (.cells #[.int .i64 dc, .slice A n c] 81)).drew w.heap.size 81 #[.int .i64 dc, .slice A n c] from z0.drew1)
  have y0 := HZD.out.cell 0; have y1 := HZD.out.cell 1
  (try dsimp only at y0 y1)
  have HBD := Lib.hid (show Below w.heap.size w (w.alloc (.cells #[.int .i64 dc, .slice A n c] 81)).drew from b0.drew)
  clear hS hn hcb hl0 z0 b0 hfr hfr2 hsp
  cases intra with
  | true =>
    cases cb with
    | false =>
      go_enter Tryz.func65, Tryz.ntmps65
      go_wp2_with (go_at_call 85; refine (C3.out _).mono ?_; rintro e w' ⟨rfl, rfl⟩)
      go_ret
      exact ⟨rfl, HB0.out⟩
    | true =>
      go_enter Tryz.func65, Tryz.ntmps65
      go_wp2_with (go_at_call 85; refine (C3.out _).mono ?_; rintro e w' ⟨rfl, rfl⟩)
      refine wp_region_treeN (fun w' => w'.cell? ⟨w.heap.size, 0, none⟩ = some (.int .i64 dc) ∧ w'.cell? ⟨w.heap.size, 1, none⟩ = some (.slice A n c)) 10 (.take 0 (.take 1 (.take 2 (.step 3 (.step 4 (.take 5 (.take 6 (.take 7 (.step 8 (.step 9 .done)))))))))) (by kernel_rfl) (by kernel_rfl) (by simp only [Pln.out, Array.getD_eq_getD_getElem?, List.getElem?_toArray, List.getElem?_cons_zero, List.getElem?_cons_succ, Option.getD_some]; rfl) (by simp only [List.map_cons, List.map_nil]; rfl) (⟨y0, y1⟩) (fun PE hPE => ?_)
      iterate 3
        refine tree_take (v := ?_) rfl (by rfl) ?_ ?_
        rotate_left
        · intro _ hSw; (try dsimp only at hSw); obtain ⟨s0, s1⟩ := hSw; go_simp; (try with_reducible rfl)
        simp only [List.setIfInBounds_toArray, List.set_cons_zero, List.set_cons_succ]
      refine tree_call (f := 84) rfl (by rfl) (by first | (go_simp; done) | (go_simp; rfl)) (C1.out _) ?_
      rintro e w2 ⟨rfl, rfl⟩
      refine ⟨_, rfl, _, fun _ h => h, ⟨y0, y1⟩, ?_⟩
      simp only [List.setIfInBounds_toArray, List.set_cons_zero, List.set_cons_succ]
      refine tree_call (f := 108) rfl (by rfl) (by first | (go_simp; done) | (go_simp; rfl)) (C2.out _ (HS.out.below HBD.out)) ?_
      rintro e w3 ⟨v, rfl, hb3, _, _⟩
      rw [HSP.out]
      have hL3 := HZD.out.below hb3 HZD.out.lt
      have HBc := Lib.hid (HBD.out.trans (hb3.mono HBD.out.size))
      refine ⟨_, rfl, _, fun _ h => h, ⟨hL3.cell 0, hL3.cell 1⟩, ?_⟩
      simp only [List.setIfInBounds_toArray, List.set_cons_zero, List.set_cons_succ]
      iterate 3
        refine tree_take (v := ?_) rfl (by rfl) ?_ ?_
        rotate_left
        · intro _ hSw; (try dsimp only at hSw); go_simp; (try with_reducible rfl)
        simp only [List.setIfInBounds_toArray, List.set_cons_zero, List.set_cons_succ]
      refine tree_value (v := ?_) (w' := ?_) rfl (by rfl) ?_ ?_ ?_
      rotate_left 2
      · go_simp; (try (constructor <;> with_reducible rfl))
      · exact ⟨hL3.cell 0, hL3.cell 1⟩
      simp only [List.setIfInBounds_toArray, List.set_cons_zero, List.set_cons_succ]
      refine tree_value (v := ?_) (w' := ?_) rfl (by rfl) ?_ ?_ ?_
      rotate_left 2
      · go_simp; (try (constructor <;> with_reducible rfl))
      · exact ⟨hL3.cell 0, hL3.cell 1⟩
      simp only [List.setIfInBounds_toArray, List.set_cons_zero, List.set_cons_succ]
      refine hPE _ _ ?_
      clear hPE PE
      simp only [List.drop_succ_cons, List.drop_zero, List.drop_nil]
      clear hb3 hL3 y0 y1
      go_wp2_with fail
      refine ⟨rfl, ?_⟩
      go_wp2_with fail
      go_ret
      exact ⟨rfl, HBc.out⟩
  | false =>
    cases hd : (dc != 0) with
    | true =>
      go_enter Tryz.func65, Tryz.ntmps65
      go_wp2_with fail
      go_ret
      exact ⟨rfl, HB0.out⟩
    | false =>
      cases hn0 : (n == 0) with
      | true =>
        have hn1 : ((n : Int) == 0) = true := by simpa using hn0
        go_enter Tryz.func65, Tryz.ntmps65
        go_wp2_with fail
        go_ret
        exact ⟨rfl, HB0.out⟩
      | false =>
        have hn1 : ((n : Int) == 0) = false := by simpa using hn0
        go_enter Tryz.func65, Tryz.ntmps65
        go_wp2_with fail
        refine wp_region_treeN (fun w' => w'.cell? ⟨w.heap.size, 0, none⟩ = some (.int .i64 dc) ∧ w'.cell? ⟨w.heap.size, 1, none⟩ = some (.slice A n c)) 10 (.take 0 (.take 1 (.take 2 (.step 3 (.step 4 (.take 5 (.take 6 (.take 7 (.step 8 (.step 9 .done)))))))))) (by kernel_rfl) (by kernel_rfl) (by simp only [Pln.out, Array.getD_eq_getD_getElem?, List.getElem?_toArray, List.getElem?_cons_zero, List.getElem?_cons_succ, Option.getD_some]; rfl) (by simp only [List.map_cons, List.map_nil]; rfl) (⟨y0, y1⟩) (fun PE hPE => ?_)
        iterate 3
          refine tree_take (v := ?_) rfl (by rfl) ?_ ?_
          rotate_left
          · intro _ hSw; (try dsimp only at hSw); obtain ⟨s0, s1⟩ := hSw; go_simp; (try with_reducible rfl)
          simp only [List.setIfInBounds_toArray, List.set_cons_zero, List.set_cons_succ]
        refine tree_call (f := 84) rfl (by rfl) (by first | (go_simp; done) | (go_simp; rfl)) (C1.out _) ?_
        rintro e w2 ⟨rfl, rfl⟩
        refine ⟨_, rfl, _, fun _ h => h, ⟨y0, y1⟩, ?_⟩
        simp only [List.setIfInBounds_toArray, List.set_cons_zero, List.set_cons_succ]
        refine tree_call (f := 108) rfl (by rfl) (by first | (go_simp; done) | (go_simp; rfl)) (C2.out _ (HS.out.below HBD.out)) ?_
        rintro e w3 ⟨v, rfl, hb3, _, _⟩
        rw [HSP.out]
        have hL3 := HZD.out.below hb3 HZD.out.lt
        have HBc := Lib.hid (HBD.out.trans (hb3.mono HBD.out.size))
        refine ⟨_, rfl, _, fun _ h => h, ⟨hL3.cell 0, hL3.cell 1⟩, ?_⟩
        simp only [List.setIfInBounds_toArray, List.set_cons_zero, List.set_cons_succ]
        iterate 3
          refine tree_take (v := ?_) rfl (by rfl) ?_ ?_
          rotate_left
          · intro _ hSw; (try dsimp only at hSw); go_simp; (try with_reducible rfl)
          simp only [List.setIfInBounds_toArray, List.set_cons_zero, List.set_cons_succ]
        refine tree_value (v := ?_) (w' := ?_) rfl (by rfl) ?_ ?_ ?_
        rotate_left 2
        · go_simp; (try (constructor <;> with_reducible rfl))
        · exact ⟨hL3.cell 0, hL3.cell 1⟩
        simp only [List.setIfInBounds_toArray, List.set_cons_zero, List.set_cons_succ]
        refine tree_value (v := ?_) (w' := ?_) rfl (by rfl) ?_ ?_ ?_
        rotate_left 2
        · go_simp; (try (constructor <;> with_reducible rfl))
        · exact ⟨hL3.cell 0, hL3.cell 1⟩
        simp only [List.setIfInBounds_toArray, List.set_cons_zero, List.set_cons_succ]
        refine hPE _ _ ?_
        clear hPE PE
        simp only [List.drop_succ_cons, List.drop_zero, List.drop_nil]
        clear hb3 hL3 y0 y1
        go_wp2_with fail
        refine ⟨rfl, ?_⟩
        go_wp2_with fail
        go_ret
        exact ⟨rfl, HBc.out⟩
end Go.Proofs.YtcojnigkgbmbmaaGreatDoor
namespace Go.Proofs.YtcojnigkgbmbmaaGreatDoor
open Go Go.RowKit
attribute [local go_sem] Oper.semAt_some
theorem cputL_snocR : ∀ (L : List (Int × Int)) (p : Int × Int) (first : Bool), cputL (L ++ [p]) first = cputL L first ++ cputP p (first && L == [])
  | [], p, first => by simp [cputL]
  | q :: L, p, first => by
    show cputP q first ++ cputL (L ++ [p]) false = (cputP q first ++ cputL L false) ++ cputP p (first && false)
    rw [cputL_snocR L p false, Bool.and_false, Bool.false_and, List.append_assoc]
set_option maxRecDepth 100000 in
set_option maxHeartbeats 8000000 in
theorem ref12_Put (dc : Int) (l : List (Int × Int)) (A : Option Addr) (n c : Nat) (intra : Bool) (w : World) (hS : Sl w A (rowC pairC l)) (hn : l.length = n) (hok : bchkP ⟨dc, l⟩ intra = 0) : Calls Tryz.prog 58 #[.agg #[.int .i64 dc, .slice A n c], .bool intra] w fun e w' => e = .returned (.tuple #[.string (bs (bputP ⟨dc, l⟩ intra)), .int .i64 0]) ∧ Below w.heap.size w w' := by
  obtain ⟨hsp, hdc⟩ := bchk_ok hok
  dsimp only at hsp hdc
  have hfr : 0 ≤ frstP intra ∧ frstP intra ≤ 1 := by cases intra <;> decide
  obtain ⟨hl64, hpb⟩ := spread_ok l _ hfr.1 (by omega) hsp
  have hn64 : n ≤ 64 := by omega
  have CK := Lib.hid (fun W hW => ref12_Check dc l A n c intra W hW hn (by omega))
  rw [hok] at CK
  have HS := Lib.hid hS; have HN := Lib.hid hn; have HPB := Lib.hid hpb; have HN64 := Lib.hid hn64
  have HL := Lib.hid (fun j => cputL_lenM (l.take j) (!intra))
  have z0 := Blk.new w 81 #[.int .i64 dc, .slice A n c]
  have b0 := (Below.refl _ w).alloc (Nat.le_refl _) (.cells #[.int .i64 dc, .slice A n c] 81)
  have HZ0 := Lib.hid z0; have HB0 := Lib.hid b0
  have hcv : ∀ (W : World) (A : Option Addr) (l : List UInt8) (n c : Nat), Sl W A (l.map byteV) → l.length = n → (convert 22 9 (.slice A n c)).run Tryz.prog W = .ok (.string (bs l)) W := fun W A l n c h hn => run_bytes_str (P := Tryz.prog) 22 9 5 (by kernel_rfl) (by kernel_rfl) (by kernel_rfl) h n c hn
  have Hcv := Lib.hid hcv
  obtain ⟨D, hD⟩ : ∃ D, (if intra then digL dc.toNat 8 else []) = D := ⟨_, rfl⟩
  have hD8 : D.length ≤ 8 := by rw [← hD]; split; rw [digL_len]; exact Nat.le_refl _; simp
  unfold bputP
  dsimp only
  rw [hD]
  have HD := Lib.hid hD; have HDC := Lib.hid hdc; have HD8 := Lib.hid hD8
  clear hcv hS hn hpb hsp hok hl64 hfr z0 b0 hD hdc hn64 hD8
  go_enter Tryz.func58, Tryz.ntmps58
  go_wp2_with fail
  refine (CK.out _ (HS.out.below HB0.out)).mono ?_
  rintro e w1 ⟨rfl, hb1⟩
  have HB1 := Lib.hid (HB0.out.trans (hb1.mono HB0.out.size))
  have HZ1 := Lib.hid (HZ0.out.below hb1 HZ0.out.lt)
  obtain ⟨gz, hgz⟩ : ∃ gz, w.heap.size = gz := ⟨_, rfl⟩
  rw [hgz] at HZ1 ⊢
  have HGZ := Lib.hid hgz
  clear hb1 HZ0 HB0 CK hgz
  have hM : ∃ M, D.length = M ∧ M ≤ 8 ∧ (intra = true → M = 8 ∧ ∃ d : Nat, dc = (d : Int) ∧ d < 256 ∧ D = digL d 8) ∧ (intra = false → M = 0) := by
    refine ⟨D.length, rfl, HD8.out, fun h => ?_, fun h => ?_⟩
    · have h1 := HDC.out h
      have h2 := HD.out
      rw [if_pos h] at h2
      exact ⟨by rw [← h2, digL_len], dc.toNat, by omega, by omega, h2.symm⟩
    · have h2 := HD.out
      rw [if_neg (by rw [h]; decide)] at h2
      rw [← h2]; rfl
  obtain ⟨M, hM1, hM8, hMt, hMf⟩ := hM
  have HM1 := Lib.hid hM1; have HMT := Lib.hid hMt; have HMF := Lib.hid hMf; have HM8 := Lib.hid hM8
  have HCS : Hid (∀ j, j < l.length → cputL (l.take (j + 1)) (!intra) = cputL (l.take j) (!intra) ++ cputP (l.getD j (0, 0)) (!intra && (j == 0))) := Lib.hid (fun j hj => by
    rw [List.take_add_one, List.getElem?_eq_getElem hj, Option.toList_some, cputL_snocR]
    have e : (l.take j == []) = (j == 0) := by
      cases j with
      | zero => rfl
      | succ j =>
        cases l with
        | nil => simp at hj
        | cons p l => rfl
    rw [e, List.getD_eq_getElem?_getD, List.getElem?_eq_getElem hj, Option.getD_some])
  clear hM1 hMt hMf hM8
  go_wp2_with fail
  go_loopg [7, 8] M (fun g t s => fun wx => ∃ (q : Nat), q + g = M ∧ t = .string (bs (D.take q)) ∧ s = .int .i64 (7 - (q : Int)) ∧ Hid (Below w1.heap.size w1 wx))
  case atStart => exact ⟨0, by omega, by simp [bs], by simp, Lib.hid (Below.refl _ _)⟩
  case round =>
    obtain ⟨q, hq, rfl, rfl, HW⟩ := hrel
    have z1 := HZ1.out.below HW.out HZ1.out.lt
    have y0 := z1.cell 0; have y1 := z1.cell 1
    (try dsimp only at y0 y1)
    cases gk with
    | succ g =>
      cases intra with
      | false => have := HMF.out rfl; omega
      | true =>
        obtain ⟨h8, d, hd, hd256, hDd⟩ := HMT.out rfl
        subst hd
        obtain ⟨r, hr⟩ : ∃ r : Nat, 7 - q = r := ⟨_, rfl⟩
        have hr2 : 7 - (q : Int) = (r : Int) := by omega
        have hsn := digL_snoc d 8 q (by omega)
        rw [show 8 - 1 - q = r by omega, ← hDd] at hsn
        obtain ⟨L, hL⟩ : ∃ L, D.take q = L := ⟨_, rfl⟩
        have hL32 : L.length ≤ 8 := by rw [← hL, List.length_take]; have := HD8.out; omega
        rw [hL] at hsn ⊢
        obtain ⟨y, hy⟩ : ∃ y, d / 2 ^ r = y := ⟨_, rfl⟩
        have hyi : ((d : Int) / 2 ^ r) = (y : Int) := by rw [← hy]; exact_mod_cast rfl
        have hyd : y ≤ d := by rw [← hy]; exact Nat.div_le_self _ _
        have hy0 : (0 : Int) ≤ (y : Int) := by omega
        have hy32 : (y : Int) ≤ 4294967296 := by omega
        rw [hy] at hsn
        rw [hr2]
        have hlt : 0 ≤ (r : Int) := by omega
        have hr31 : (r : Int) ≤ 31 := by omega
        have hr64 : (r : Int) ≤ 64 := by omega
        have hrn : (r : Int).toNat = r := by omega
        have hr0 : ¬ ((r : Int) < 0) := by omega
        have hw1 : IntKind.i64.wrap ((r : Int) - 1) = (r : Int) - 1 := by rw [IntKind.wrap_i64]; omega
        have HSN := Lib.hid hsn; have HQ := Lib.hid hq; have HR := Lib.hid hr
        have HQ8 := Lib.hid (show q + 1 ≤ 8 by omega)
        clear hL hsn hq hr hr2 hy hyd hDd h8 hd256 z1
        by_cases hz : y % 2 = 0
        · have hm2 : (y : Int) % 2 = 0 := by omega
          rw [if_pos hz] at HSN
          have hcv1 := Hcv.out (wr.alloc (.cells #[.int .u8 48] 5)) (some ⟨wr.heap.size, 0, none⟩) [48] 1 1 (Blk.sl (Blk.new wr 5 #[.int .u8 48]) 0) rfl
          clear hz
          go_wp2_with fail
          go_roundg g
          case measure => omega
          case rel => exact ⟨q + 1, by have := HQ.out; omega, by rw [HSN.out], by rw [show (7 : Int) - ((q + 1 : Nat) : Int) = (r : Int) - 1 by have := HQ8.out; have := HR.out; omega], Lib.hid (HW.out.alloc HW.out.size _)⟩
        · have hm2 : (y : Int) % 2 = 1 := by omega
          rw [if_neg hz] at HSN
          have hcv1 := Hcv.out (wr.alloc (.cells #[.int .u8 49] 5)) (some ⟨wr.heap.size, 0, none⟩) [49] 1 1 (Blk.sl (Blk.new wr 5 #[.int .u8 49]) 0) rfl
          clear hz
          go_wp2_with fail
          go_roundg g
          case measure => omega
          case rel => exact ⟨q + 1, by have := HQ.out; omega, by rw [HSN.out], by rw [show (7 : Int) - ((q + 1 : Nat) : Int) = (r : Int) - 1 by have := HQ8.out; have := HR.out; omega], Lib.hid (HW.out.alloc HW.out.size _)⟩
    | zero =>
      obtain rfl : q = M := by omega
      have hlt : ¬ (intra = true ∧ 0 ≤ 7 - (q : Int)) := fun h => by have := (HMT.out h.1).1; omega
      have htk : D.take q = D := List.take_of_length_le (by have := HM1.out; omega)
      rw [htk]
      have HP0 : Hid (D = D ++ cputL (l.take 0) (!intra)) := Lib.hid (by simp [cputL])
      clear htk hq
      cases intra with
      | true =>
        have hlt2 : ¬ (0 ≤ 7 - (q : Int)) := fun h => hlt ⟨rfl, h⟩
        clear hlt
        go_wp2_with fail
        go_loopg [7, 9] n (fun g t s => fun wx => ∃ (j : Nat), j + g = n ∧ t = .string (bs (D ++ cputL (l.take j) (!true))) ∧ s = .int .i64 (j : Int) ∧ Hid (Below w1.heap.size w1 wx))
        case atStart => exact ⟨0, by omega, by rw [← HP0.out], rfl, HW⟩
        case round =>
          clear y0 y1 z1 HW
          obtain ⟨j, hj, rfl, rfl, HW⟩ := hrel
          have z1 := HZ1.out.below HW.out HZ1.out.lt
          have y0 := z1.cell 0; have y1 := z1.cell 1
          (try dsimp only at y0 y1)
          have hlen := HL.out j
          have hd8 := HD8.out
          have htl : (l.take j).length ≤ 64 := by rw [List.length_take]; have := HN.out; have := HN64.out; omega
          obtain ⟨S, hS⟩ : ∃ S, D ++ cputL (l.take j) (!true) = S := ⟨_, rfl⟩
          have hS2 : S.length ≤ 1400 := by rw [← hS, List.length_append]; omega
          clear hlen hd8 htl z1
          cases gk with
          | zero =>
            obtain rfl : j = n := by omega
            have hlt3 : ¬ ((j : Int) < (j : Int)) := by omega
            have hS3 := hS
            rw [List.take_of_length_le (by have := HN.out; omega)] at hS3
            rw [hS]
            have HS3 := Lib.hid hS3
            have HBW := Lib.hid (HB1.out.trans (HW.out.mono HB1.out.size))
            clear hS hS3 hj
            go_wp2_with fail
            go_ret2
            refine ⟨?_, HBW.out⟩
            have e : D ++ (cputL l false ++ endC) = S ++ endC := by rw [← HS3.out, List.append_assoc]; rfl
            rw [e]
            show Ending.returned (.tuple #[.string (bs S ++ bs endC), .int .i64 0]) = _
            rw [bs_join]
          | succ g =>
            have hlt3 : ((j : Int) < (n : Int)) := by omega
            have hjl : j < l.length := by have := HN.out; omega
            obtain ⟨ad, rfl, _, c0, c1⟩ := sl_pair (HS.out.below (HB1.out.trans (HW.out.mono HB1.out.size))) j hjl
            have hcs := HCS.out j hjl
            have hpj := HPB.out l[j] (List.getElem_mem hjl)
            rw [show l.getD j (0, 0) = l[j] by rw [List.getD_eq_getElem?_getD, List.getElem?_eq_getElem hjl, Option.getD_some]] at hcs
            obtain ⟨⟨p1, p2⟩, hpe⟩ : ∃ p, l[j] = p := ⟨_, rfl⟩
            rw [hpe] at c0 c1 hcs hpj
            dsimp only at c0 c1
            have hjb : ((j : Int) == 0) = (j == 0) := by cases j <;> simp <;> omega
            obtain ⟨b, hb⟩ : ∃ b, ((j : Int) == 0) = b := ⟨_, rfl⟩
            rw [hjb] at hb
            rw [hb] at hcs
            rw [hb] at hjb
            have CP := Lib.hid (fun W => ref08_Put p1 p2 false W hpj)
            rw [put8_eq] at CP
            obtain ⟨cp, hcp⟩ : ∃ cp, cputP (p1, p2) false = cp := ⟨_, rfl⟩
            have hcl := cput_le (p1, p2) false
            rw [hcp] at CP hcl
            have hcs2 : cputL (l.take (j + 1)) (!true) = cputL (l.take j) (!true) ++ cp := by rw [hcs, ← hcp]; rfl
            have HC2 := Lib.hid (show S ++ cp = D ++ cputL (l.take (j + 1)) (!true) by rw [hcs2, ← List.append_assoc, hS])
            rw [hS]
            have HJ := Lib.hid hj
            have hw1 : IntKind.i64.wrap ((j : Int) + 1) = (j : Int) + 1 := by have := HN64.out; rw [IntKind.wrap_i64]; omega
            clear hS hcs hcs2 hcp hpj hpe hjl hj hb
            go_wp2_with (go_at_call 103; refine (CP.out _).mono ?_; rintro e w3 ⟨rfl, hb3⟩; have HW3 := Lib.hid (HW.out.trans (hb3.mono HW.out.size)); clear hb3)
            go_roundg g
            case measure => omega
            case rel => exact ⟨j + 1, by have := HJ.out; omega, by rw [HC2.out], rfl, HW3⟩
      | false =>
        clear hlt
        go_wp2_with fail
        go_loopg [7, 9] n (fun g t s => fun wx => ∃ (j : Nat), j + g = n ∧ t = .string (bs (D ++ cputL (l.take j) (!false))) ∧ s = .int .i64 (j : Int) ∧ Hid (Below w1.heap.size w1 wx))
        case atStart => exact ⟨0, by omega, by rw [← HP0.out], rfl, HW⟩
        case round =>
          clear y0 y1 z1 HW
          obtain ⟨j, hj, rfl, rfl, HW⟩ := hrel
          have z1 := HZ1.out.below HW.out HZ1.out.lt
          have y0 := z1.cell 0; have y1 := z1.cell 1
          (try dsimp only at y0 y1)
          have hlen := HL.out j
          have hd8 := HD8.out
          have htl : (l.take j).length ≤ 64 := by rw [List.length_take]; have := HN.out; have := HN64.out; omega
          obtain ⟨S, hS⟩ : ∃ S, D ++ cputL (l.take j) (!false) = S := ⟨_, rfl⟩
          have hS2 : S.length ≤ 1400 := by rw [← hS, List.length_append]; omega
          clear hlen hd8 htl z1
          cases gk with
          | zero =>
            obtain rfl : j = n := by omega
            have hlt3 : ¬ ((j : Int) < (j : Int)) := by omega
            have hS3 := hS
            rw [List.take_of_length_le (by have := HN.out; omega)] at hS3
            rw [hS]
            have HS3 := Lib.hid hS3
            have HBW := Lib.hid (HB1.out.trans (HW.out.mono HB1.out.size))
            clear hS hS3 hj
            go_wp2_with fail
            go_ret2
            refine ⟨?_, HBW.out⟩
            have e : D ++ (cputL l true ++ endC) = S ++ endC := by rw [← HS3.out, List.append_assoc]; rfl
            rw [e]
            show Ending.returned (.tuple #[.string (bs S ++ bs endC), .int .i64 0]) = _
            rw [bs_join]
          | succ g =>
            have hlt3 : ((j : Int) < (n : Int)) := by omega
            have hjl : j < l.length := by have := HN.out; omega
            obtain ⟨ad, rfl, _, c0, c1⟩ := sl_pair (HS.out.below (HB1.out.trans (HW.out.mono HB1.out.size))) j hjl
            have hcs := HCS.out j hjl
            have hpj := HPB.out l[j] (List.getElem_mem hjl)
            rw [show l.getD j (0, 0) = l[j] by rw [List.getD_eq_getElem?_getD, List.getElem?_eq_getElem hjl, Option.getD_some]] at hcs
            obtain ⟨⟨p1, p2⟩, hpe⟩ : ∃ p, l[j] = p := ⟨_, rfl⟩
            rw [hpe] at c0 c1 hcs hpj
            dsimp only at c0 c1
            have hjb : ((j : Int) == 0) = (j == 0) := by cases j <;> simp <;> omega
            obtain ⟨b, hb⟩ : ∃ b, ((j : Int) == 0) = b := ⟨_, rfl⟩
            rw [hjb] at hb
            rw [hb] at hcs
            rw [hb] at hjb
            have CP := Lib.hid (fun W => ref08_Put p1 p2 b W hpj)
            rw [put8_eq] at CP
            obtain ⟨cp, hcp⟩ : ∃ cp, cputP (p1, p2) b = cp := ⟨_, rfl⟩
            have hcl := cput_le (p1, p2) b
            rw [hcp] at CP hcl
            have hcs2 : cputL (l.take (j + 1)) (!false) = cputL (l.take j) (!false) ++ cp := by rw [hcs, ← hcp]; rfl
            have HC2 := Lib.hid (show S ++ cp = D ++ cputL (l.take (j + 1)) (!false) by rw [hcs2, ← List.append_assoc, hS])
            rw [hS]
            have HJ := Lib.hid hj
            have hw1 : IntKind.i64.wrap ((j : Int) + 1) = (j : Int) + 1 := by have := HN64.out; rw [IntKind.wrap_i64]; omega
            clear hS hcs hcs2 hcp hpj hpe hjl hj hb
            go_wp2_with (go_at_call 103; refine (CP.out _).mono ?_; rintro e w3 ⟨rfl, hb3⟩; have HW3 := Lib.hid (HW.out.trans (hb3.mono HW.out.size)); clear hb3)
            go_roundg g
            case measure => omega
            case rel => exact ⟨j + 1, by have := HJ.out; omega, by rw [HC2.out], rfl, HW3⟩
end Go.Proofs.YtcojnigkgbmbmaaGreatDoor
namespace Go.Proofs.YtcojnigkgbmbmaaGreatDoor
open Go Go.RowKit
attribute [local go_sem] Oper.semAt_some
theorem get8_end {l : List UInt8} {i : Int} {first : Bool} (h : (get8 l i first).2.2.2 ≠ 0) : (get8 l i first).2.1 = false := by
  unfold get8 at h ⊢
  dsimp only at h ⊢
  split
  · rfl
  split
  · rename_i h1 h2
    rw [if_neg h1, if_pos h2] at h
    exact absurd rfl h
  split
  · split
    · rfl
    · split <;> rfl
  · split <;> rfl
/-- the state of the loop: the pairs so far, the place in the bits, the place in the block. -/
structure InvR (l : List UInt8) (i : Int) (f0 : Bool) (left0 : Int) (L : List (Int × Int)) (p a : Int) : Prop where
  p0 : 0 ≤ p
  p1 : p ≤ 9223372036854775807
  p8 : p ≤ 8 * (l.length : Int) ∨ p = i
  a0 : (L.length : Int) ≤ a
  a1 : a ≤ 64
  eq : bpairs l 66 i f0 left0 = (L ++ (bpairs l (66 - L.length) p (f0 && L.length == 0) (64 - a)).1, (bpairs l (66 - L.length) p (f0 && L.length == 0) (64 - a)).2)
theorem bpairs_succR (l : List UInt8) (f : Nat) (i : Int) (first : Bool) (left : Int) : bpairs l (f + 1) i first left =
    (let r := cgetP l i first
    if r.2.1 then ([], i + r.2.2.1, 0) else if r.2.2.2 != 0 then ([], 0, r.2.2.2) else
    if left - (r.1.1 + 1) < 0 then ([], 0, 11) else
    let q := bpairs l f (i + r.2.2.1) false (left - (r.1.1 + 1))
    (r.1 :: q.1, q.2.1, q.2.2)) := rfl
theorem InvR.open {l : List UInt8} {i : Int} {f0 : Bool} {left0 : Int} {L : List (Int × Int)} {p a : Int} (h : InvR l i f0 left0 L p a) : ∃ g, 66 - L.length = g + 1 ∧ 65 - L.length = g := ⟨65 - L.length, by have := h.a0; have := h.a1; omega, rfl⟩
theorem InvR.err {l : List UInt8} {i : Int} {f0 : Bool} {left0 : Int} {L : List (Int × Int)} {p a r1 r2 bt er : Int} {en : Bool} (h : InvR l i f0 left0 L p a) (hc : cgetP l p (f0 && L.length == 0) = ((r1, r2), en, bt, er)) (he : er ≠ 0) : bpairs l 66 i f0 left0 = (L, 0, er) := by
  obtain ⟨g, hg, _⟩ := h.open
  have h1 := h.eq
  have h2 : en = false := by
    have := @get8_end l p (f0 && L.length == 0)
    rw [get8_eq, hc] at this
    exact this he
  rw [hg, bpairs_succR l g p, hc] at h1
  dsimp only at h1
  rw [h2, if_neg Bool.false_ne_true, if_pos (by simpa using he)] at h1
  simpa using h1
theorem InvR.stop {l : List UInt8} {i : Int} {f0 : Bool} {left0 : Int} {L : List (Int × Int)} {p a r1 r2 bt : Int} (h : InvR l i f0 left0 L p a) (hc : cgetP l p (f0 && L.length == 0) = ((r1, r2), true, bt, 0)) : bpairs l 66 i f0 left0 = (L, p + bt, 0) := by
  obtain ⟨g, hg, _⟩ := h.open
  have h1 := h.eq
  rw [hg, bpairs_succR l g p, hc] at h1
  dsimp only at h1
  rw [if_pos rfl] at h1
  simpa using h1
theorem InvR.over {l : List UInt8} {i : Int} {f0 : Bool} {left0 : Int} {L : List (Int × Int)} {p a r1 r2 bt : Int} (h : InvR l i f0 left0 L p a) (hc : cgetP l p (f0 && L.length == 0) = ((r1, r2), false, bt, 0)) (ho : 63 < a + r1) : bpairs l 66 i f0 left0 = (L, 0, 11) := by
  obtain ⟨g, hg, _⟩ := h.open
  have h1 := h.eq
  rw [hg, bpairs_succR l g p, hc] at h1
  dsimp only at h1
  rw [if_neg Bool.false_ne_true, if_neg (by decide), if_pos (by omega)] at h1
  simpa using h1
theorem InvR.ok {l : List UInt8} {i : Int} {f0 : Bool} {left0 : Int} {L : List (Int × Int)} {p a r1 r2 bt : Int} {en : Bool} (h : InvR l i f0 left0 L p a) (hi8 : 8 * (l.length : Int) ≤ 9223372036854775807) (hc : cgetP l p (f0 && L.length == 0) = ((r1, r2), en, bt, 0)) :
    1 ≤ bt ∧ p + bt ≤ 8 * (l.length : Int) ∧ (en = false → 0 ≤ r1 ∧ r1 ≤ 63) := by
  have h8 : p ≤ 8 * (l.length : Int) := by
    rcases Int.lt_or_le (8 * (l.length : Int)) p with h1 | h1
    · exfalso
      have h0 := h.p0
      unfold cgetP at hc
      rw [if_neg (by omega), if_pos h1] at hc
      injection hc with _ hc
      injection hc with _ hc
      injection hc with _ hc
      cases hc
    · exact h1
  have := cget_ok l p (f0 && L.length == 0) h.p0 h8
  rw [hc] at this
  obtain ⟨q0, q1, q2, q3, _⟩ := this
  dsimp only at q0 q1 q2 q3
  have h0 := h.p0
  exact ⟨q2 rfl, by omega, fun he => ⟨(q3 rfl he).1, (q3 rfl he).2.1⟩⟩
theorem InvR.next {l : List UInt8} {i : Int} {f0 : Bool} {left0 : Int} {L : List (Int × Int)} {p a r1 r2 bt : Int} (h : InvR l i f0 left0 L p a) (hi8 : 8 * (l.length : Int) ≤ 9223372036854775807) (hc : cgetP l p (f0 && L.length == 0) = ((r1, r2), false, bt, 0)) (ho : ¬ 63 < a + r1) : InvR l i f0 left0 (L ++ [(r1, r2)]) (p + bt) (a + r1 + 1) := by
  obtain ⟨b1, b2, b3⟩ := h.ok hi8 hc
  have b4 := b3 rfl
  obtain ⟨g, hg, hg2⟩ := h.open
  have h1 := h.eq
  rw [hg, bpairs_succR l g p, hc] at h1
  dsimp only at h1
  rw [if_neg Bool.false_ne_true, if_neg (by decide), if_neg (by omega)] at h1
  have hll : (L ++ [(r1, r2)]).length = L.length + 1 := by simp
  have h0 := h.p0
  have ha0 := h.a0
  refine ⟨by omega, by omega, .inl b2, by rw [hll]; omega, by omega, ?_⟩
  have e1 : 66 - (L.length + 1) = g := by omega
  have e2 : (f0 && L.length + 1 == 0) = false := by simp
  have e3 : 64 - (a + r1 + 1) = 64 - a - (r1 + 1) := by omega
  rw [hll, e1, e2, e3, h1]
  simp
end Go.Proofs.YtcojnigkgbmbmaaGreatDoor
namespace Go.Proofs.YtcojnigkgbmbmaaGreatDoor
open Go Go.RowKit
attribute [local go_sem] Oper.semAt_some
def withP (t : Bool) (n lo hi : Int) : Bool := if t then decide (lo ≤ n) && decide (n ≤ hi) else n == 0
theorem ref19_within (t : Bool) (n lo hi : Int) (w : World) : Calls Tryz.prog 64 #[.bool t, .int .i64 n, .int .i64 lo, .int .i64 hi] w fun e w' => e = .returned (.bool (withP t n lo hi)) ∧ w = w' := by
  cases t with
  | false =>
    unfold withP
    rw [if_neg Bool.false_ne_true]
    go_enter Tryz.func64, Tryz.ntmps64
    go_wp2_with fail
    go_ret
    exact ⟨rfl, rfl⟩
  | true =>
    unfold withP
    rw [if_pos rfl]
    cases a : decide (lo ≤ n) with
    | false =>
      go_enter Tryz.func64, Tryz.ntmps64
      go_wp2_with fail
      go_ret
      exact ⟨rfl, rfl⟩
    | true =>
      go_enter Tryz.func64, Tryz.ntmps64
      go_wp2_with fail
      go_ret
      exact ⟨rfl, rfl⟩
set_option maxHeartbeats 4000000 in
theorem ref19_Ahead (x : LastM) (ad : Int) (w : World) : Calls Tryz.prog 35 #[.agg #[.int .i64 x.ad, .bool x.had, .int .i64 x.x, .int .i64 x.y], .int .i64 ad] w fun e w' => e = .returned (.bool (aheadB x ad)) ∧ Below w.heap.size w w' := by
  obtain ⟨la, lh, lx, ly⟩ := x
  unfold aheadB partB
  dsimp only
  have HB := Lib.hid ((Below.refl _ w).alloc (Nat.le_refl _) (.cells #[.int .i64 la, .bool lh, .int .i64 lx, .int .i64 ly] 24))
  by_cases a1 : la < 0
  · have e1 : decide (la < 0) = true := decide_eq_true a1
    have f1 : decide (0 ≤ la) = false := by simp; omega
    rw [f1]; simp only [Bool.false_and]
    clear a1 f1
    go_enter Tryz.func35, Tryz.ntmps35
    go_wp2_with fail
    go_ret
    exact ⟨rfl, HB.out⟩
  have e1 : decide (la < 0) = false := decide_eq_false a1
  have f1 : decide (0 ≤ la) = true := by simp; omega
  rw [f1]
  clear a1 f1
  by_cases a2 : la < ad
  · have e2 : decide (ad ≤ la) = false := by simp; omega
    have f2 : decide (la < ad) = true := decide_eq_true a2
    rw [f2]
    clear a2 f2
    by_cases a3 : lx < -15
    · have e3 : decide (lx < -15) = true := decide_eq_true a3
      have f3 : decide (-15 ≤ lx) = false := by simp; omega
      rw [f3]; simp only [Bool.false_and, Bool.and_false, Bool.true_and]
      clear a3 f3
      go_enter Tryz.func35, Tryz.ntmps35
      go_wp2_with fail
      go_ret
      exact ⟨rfl, HB.out⟩
    have e3 : decide (lx < -15) = false := decide_eq_false a3
    have f3 : decide (-15 ≤ lx) = true := by simp; omega
    rw [f3]
    clear a3 f3
    by_cases a4 : 15 < lx
    · have e4 : decide (15 < lx) = true := decide_eq_true a4
      have f4 : decide (lx ≤ 15) = false := by simp; omega
      rw [f4]; simp only [Bool.false_and, Bool.and_false, Bool.true_and]
      clear a4 f4
      go_enter Tryz.func35, Tryz.ntmps35
      go_wp2_with fail
      go_ret
      exact ⟨rfl, HB.out⟩
    have e4 : decide (15 < lx) = false := decide_eq_false a4
    have f4 : decide (lx ≤ 15) = true := by simp; omega
    rw [f4]
    clear a4 f4
    by_cases a5 : ly < -15
    · have e5 : decide (ly < -15) = true := decide_eq_true a5
      have f5 : decide (-15 ≤ ly) = false := by simp; omega
      rw [f5]; simp only [Bool.false_and, Bool.and_false, Bool.true_and]
      clear a5 f5
      go_enter Tryz.func35, Tryz.ntmps35
      go_wp2_with fail
      go_ret
      exact ⟨rfl, HB.out⟩
    have e5 : decide (ly < -15) = false := decide_eq_false a5
    have f5 : decide (-15 ≤ ly) = true := by simp; omega
    rw [f5]
    clear a5 f5
    by_cases a6 : 15 < ly
    · have e6 : decide (15 < ly) = true := decide_eq_true a6
      have f6 : decide (ly ≤ 15) = false := by simp; omega
      rw [f6]; simp only [Bool.false_and, Bool.and_false, Bool.true_and]
      clear a6 f6
      go_enter Tryz.func35, Tryz.ntmps35
      go_wp2_with fail
      go_ret
      exact ⟨rfl, HB.out⟩
    have e6 : decide (15 < ly) = false := decide_eq_false a6
    have f6 : decide (ly ≤ 15) = true := by simp; omega
    rw [f6]
    clear a6 f6
    cases lh with
    | true =>
      go_enter Tryz.func35, Tryz.ntmps35
      go_wp2_with fail
      go_ret
      exact ⟨rfl, HB.out⟩
    | false =>
      cases a7 : (lx == 0) with
      | true =>
        go_enter Tryz.func35, Tryz.ntmps35
        go_wp2_with fail
        go_ret
        exact ⟨rfl, HB.out⟩
      | false =>
        go_enter Tryz.func35, Tryz.ntmps35
        go_wp2_with fail
        go_ret
        exact ⟨rfl, HB.out⟩
  · have e2 : decide (ad ≤ la) = true := by simp; omega
    have f2 : decide (la < ad) = false := decide_eq_false a2
    rw [f2]; simp only [Bool.false_and, Bool.and_false, Bool.true_and]
    clear a2 f2
    go_enter Tryz.func35, Tryz.ntmps35
    go_wp2_with fail
    go_ret
    exact ⟨rfl, HB.out⟩
set_option maxHeartbeats 4000000 in
theorem ref19_After (m : MacM) (A : Option Addr) (n c : Nat) (w : World) : Calls Tryz.prog 22 #[.agg #[.int .i64 m.ad, .int .i64 m.kd, .int .i64 m.qu, .int .i64 m.x, .int .i64 m.y, .int .i64 m.pa, .slice A n c]] w fun e w' => e = .returned (.agg #[.int .i64 (aftP m).ad, .bool (aftP m).had, .int .i64 (aftP m).x, .int .i64 (aftP m).y]) ∧ Below w.heap.size w w' := by
  obtain ⟨ad, kd, qu, mx, my, pa, bl⟩ := m
  have CO := Lib.hid (fun W => ref05_Of kd W)
  have hb := ((Below.refl _ w).alloc (Nat.le_refl _) (.cells #[.int .i64 ad, .int .i64 kd, .int .i64 qu, .int .i64 mx, .int .i64 my, .int .i64 pa, .slice A n c] 29)).alloc (by simp) (.cells #[.int .i64 0, .bool false, .int .i64 0, .int .i64 0] 24)
  have hc : CellsAt [(w.heap.size, 29, #[.int .i64 ad, .int .i64 kd, .int .i64 qu, .int .i64 mx, .int .i64 my, .int .i64 pa, .slice A n c]), (w.heap.size + 1, 24, #[.int .i64 0, .bool false, .int .i64 0, .int .i64 0])] ((w.alloc (.cells #[.int .i64 ad, .int .i64 kd, .int .i64 qu, .int .i64 mx, .int .i64 my, .int .i64 pa, .slice A n c] 29)).alloc (.cells #[.int .i64 0, .bool false, .int .i64 0, .int .i64 0] 24)) :=
    CellsAt.cons ((Blk.new w _ _).alloc _) (CellsAt.cons (blkAt (Blk.new _ _ _) (by simp)) (cellsAt_nil _))
  have HB := Lib.hid hb; have HC := Lib.hid hc
  unfold aftP
  dsimp only
  obtain ⟨v, hv⟩ : ∃ v, pV kd = v := ⟨_, rfl⟩
  unfold OfPost prtL at CO
  obtain ⟨oe, hoe⟩ : ∃ oe : Int, (if inK kd then 0 else 18) = oe := ⟨_, rfl⟩
  rw [hv] at CO ⊢
  rw [hoe] at CO
  clear hb hc hv hoe
  go_enter Tryz.func22, Tryz.ntmps22
  go_wp2_with fail
  refine (CO.out _).mono ?_
  rintro e w1 ⟨rfl, hb1⟩
  have hb2 := HB.out.trans (hb1.mono HB.out.size)
  have HB2 := Lib.hid (hb2.alloc hb2.size (.cells #[.bool (pI kd), .bool (pQ kd), .bool v, .bool (pF kd), .bool (pC kd)] 59))
  have hc2 := (HC.out.below hb1).alloc (.cells #[.bool (pI kd), .bool (pQ kd), .bool v, .bool (pF kd), .bool (pC kd)] 59)
  have HC2 := Lib.hid hc2
  have x6 := hc2.head; have x9 := hc2.tail.head
  have u0 := x6.cell 0; have u1 := x6.cell 3; have u2 := x6.cell 4
  have v0 := x9.cell 0; have v1 := x9.cell 1; have v2 := x9.cell 2; have v3 := x9.cell 3
  have f0 := x9.frozen 0; have f1 := x9.frozen 1; have f2 := x9.frozen 2; have f3 := x9.frozen 3
  (try dsimp only at u0 u1 u2 v0 v1 v2 v3 f0 f1 f2 f3)
  clear hb1 hb2 hc2 x6 x9 CO
  cases v with
  | true =>
    go_wp2_with fail
    have h5 := ((((HC2.out.tail.head.set_ 0 (.int .i64 ad)).set_ 1 (.bool true)).set_ 2 (.int .i64 mx)).set_ 3 (.int .i64 my))
    have s0 := h5.cell 0; have s1 := h5.cell 1; have s2 := h5.cell 2; have s3 := h5.cell 3
    simp at s0 s1 s2 s3
    refine bodyPost_ret (by simp [results, Tryz.results22, go_sem, s0, s1, s2, s3]; try rfl) rfl ?_
    exact ⟨rfl, (((HB2.out.setCell (p := ⟨w.heap.size + 1, 0, none⟩) (Nat.le_succ _) _).setCell (p := ⟨w.heap.size + 1, 1, none⟩) (Nat.le_succ _) _).setCell (p := ⟨w.heap.size + 1, 2, none⟩) (Nat.le_succ _) _).setCell (p := ⟨w.heap.size + 1, 3, none⟩) (Nat.le_succ _) _⟩
  | false =>
    go_wp2_with fail
    have h5 := ((((HC2.out.tail.head.set_ 0 (.int .i64 ad)).set_ 1 (.bool false)).set_ 2 (.int .i64 0)).set_ 3 (.int .i64 0))
    have s0 := h5.cell 0; have s1 := h5.cell 1; have s2 := h5.cell 2; have s3 := h5.cell 3
    simp at s0 s1 s2 s3
    refine bodyPost_ret (by simp [results, Tryz.results22, go_sem, s0, s1, s2, s3]; try rfl) rfl ?_
    exact ⟨rfl, (((HB2.out.setCell (p := ⟨w.heap.size + 1, 0, none⟩) (Nat.le_succ _) _).setCell (p := ⟨w.heap.size + 1, 1, none⟩) (Nat.le_succ _) _).setCell (p := ⟨w.heap.size + 1, 2, none⟩) (Nat.le_succ _) _).setCell (p := ⟨w.heap.size + 1, 3, none⟩) (Nat.le_succ _) _⟩
end Go.Proofs.YtcojnigkgbmbmaaGreatDoor
