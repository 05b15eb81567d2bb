/- MacroPredicts answers true. -/
import Derived.Test.YtcojnigkgbmbmaaGreatDoorK36
import Derived.Test.YtcojnigkgbmbmaaGreatDoorKLong19
import Derived.Test.YtcojnigkgbmbmaaGreatDoorK02
import Derived.Test.YtcojnigkgbmbmaaGreatDoorK06
import Derived.Deep.DeepCutAuto
namespace Go.Proofs.YtcojnigkgbmbmaaGreatDoor
open Go Go.RowKit
attribute [local go_sem] Oper.semAt_some
theorem mput_ok {m : MacM} {x : LastM} {s : List UInt8} {e : Int} (h : mputP m x = (s, e)) (he : e = 0) : okM m = true ∧ aheadB x m.ad = true ∧ s = mputL m x := by
  unfold mputP at h
  split at h
  · rename_i hc
    rw [Bool.and_eq_true] at hc
    exact ⟨hc.1, hc.2, (Prod.mk.inj h).1.symm⟩
  · subst he; cases h
set_option maxRecDepth 100000 in
set_option maxHeartbeats 16000000 in
theorem law19_Predicts (m : MacM) (xs : List BkE) (A : Option Addr) (c : Nat) (one two : LastM) (w : World) (hm : m.bl = xs.map (·.1)) (hA : Sl w A (rowC bkC xs)) (hbl : ∀ p ∈ xs, Sl w p.2.1 (rowC pairC p.1.l)) (hT : Tz w) (hTs : Ts w) :
    Calls Tryz.prog 6 #[macV m A xs.length c, lastV one, lastV two] w fun e w' => e = .returned (.bool true) ∧ Below w.heap.size w w' := by
  have HT := Lib.hid hT; have HS := Lib.hid hTs; have HA := Lib.hid hA; have HBL := Lib.hid hbl; have HM := Lib.hid hm
  have hb1 := (((Below.refl w.heap.size w).alloc (Nat.le_refl _) (.cells #[.int .i64 m.ad, .int .i64 m.kd, .int .i64 m.qu, .int .i64 m.x, .int .i64 m.y, .int .i64 m.pa, .slice A xs.length c] 29)).alloc (by simp) (.cells #[.int .i64 one.ad, .bool one.had, .int .i64 one.x, .int .i64 one.y] 24)).alloc (by simp; omega) (.cells #[.int .i64 two.ad, .bool two.had, .int .i64 two.x, .int .i64 two.y] 24)
  have hcl : CellsAt [(w.heap.size, 29, #[.int .i64 m.ad, .int .i64 m.kd, .int .i64 m.qu, .int .i64 m.x, .int .i64 m.y, .int .i64 m.pa, .slice A xs.length c]), (w.heap.size + 1, 24, #[.int .i64 one.ad, .bool one.had, .int .i64 one.x, .int .i64 one.y]), (w.heap.size + 2, 24, #[.int .i64 two.ad, .bool two.had, .int .i64 two.x, .int .i64 two.y])]
      (((w.alloc (.cells #[.int .i64 m.ad, .int .i64 m.kd, .int .i64 m.qu, .int .i64 m.x, .int .i64 m.y, .int .i64 m.pa, .slice A xs.length c] 29)).alloc (.cells #[.int .i64 one.ad, .bool one.had, .int .i64 one.x, .int .i64 one.y] 24)).alloc (.cells #[.int .i64 two.ad, .bool two.had, .int .i64 two.x, .int .i64 two.y] 24)) := by
    refine CellsAt.cons ?_ (CellsAt.cons ?_ (CellsAt.cons ?_ (cellsAt_nil _)))
    · exact ((Blk.new w _ _).alloc _).alloc _
    · exact (blkAt (Blk.new _ _ _) (by simp)).alloc _
    · exact blkAt (Blk.new _ _ _) (by simp)
  have HB1 := Lib.hid hb1; have HCL := Lib.hid hcl
  have HLO := Lib.hid (fun W hW => law19_Long m xs A c W hW)
  have hlen : longP xs = false → ∀ W, Below w.heap.size w W → BksAt W A xs := fun h W hb => ⟨HA.out.below hb, fun p hp => (HBL.out p hp).below hb, by have := (long_not h).1; omega, fun p hp => by have := (long_not h).2 p hp; omega⟩
  have HBK := Lib.hid hlen
  have HP1 := Lib.hid (fun W h1 h2 h3 => macro_Put m one xs A c W HM.out h1 h2 h3)
  have HP2 := Lib.hid (fun W h1 h2 h3 => macro_Put m two xs A c W HM.out h1 h2 h3)
  obtain ⟨⟨s1, e1⟩, hr1⟩ : ∃ r, mputP m one = r := ⟨_, rfl⟩
  obtain ⟨⟨s2, e2⟩, hr2⟩ : ∃ r, mputP m two = r := ⟨_, rfl⟩
  rw [hr1] at HP1
  rw [hr2] at HP2
  dsimp only at HP1 HP2
  have HR1 := Lib.hid hr1; have HR2 := Lib.hid hr2
  clear hT hTs hA hbl hm hb1 hcl hlen hr1 hr2
  unfold macV at HLO HP1 HP2 ⊢
  unfold lastV at HP1 HP2 ⊢
  obtain ⟨ad, kd, qu, mx, my, pa, bl⟩ := m
  obtain ⟨a1, d1, x1, y1⟩ := one
  obtain ⟨a2, d2, x2, y2⟩ := two
  dsimp only at HB1 HCL HLO HP1 HP2 HM ⊢
  obtain ⟨n, hn⟩ : ∃ n, xs.length = n := ⟨_, rfl⟩
  rw [hn] at HB1 HCL HLO HP1 HP2 ⊢
  clear hn
  go_enter Tryz.func6, Tryz.ntmps6
  go_wp2_with fail
  refine (law19_Known _ (HT.out.below HB1.out) (HS.out.below HB1.out)).mono ?_
  rintro e w2 ⟨rfl, hb⟩
  have CL2 := Lib.hid (HCL.out.below hb)
  have B2 := Lib.hid (HB1.out.trans (hb.mono HB1.out.size)); clear hb HB1 HCL
  obtain ⟨g0, hg0⟩ : ∃ g0, w.heap.size = g0 := ⟨_, rfl⟩
  obtain ⟨g1, hg1⟩ : ∃ g1, g0 + 1 = g1 := ⟨_, rfl⟩
  obtain ⟨g2, hg2⟩ : ∃ g2, g0 + 2 = g2 := ⟨_, rfl⟩
  rw [hg0] at CL2 ⊢
  simp only [Nat.add_assoc, Nat.reduceAdd] at CL2 ⊢
  rw [hg1, hg2] at CL2 ⊢
  clear hg0 hg1 hg2
  have y0 := CL2.out.head.cell 0; have y1' := CL2.out.head.cell 1; have y2' := CL2.out.head.cell 2; have y3 := CL2.out.head.cell 3; have y4 := CL2.out.head.cell 4; have y5 := CL2.out.head.cell 5; have y6 := CL2.out.head.cell 6
  (try dsimp only at y0 y1' y2' y3 y4 y5 y6)
  simp at y0 y1' y2' y3 y4 y5 y6
  go_wp2_with fail
  refine (HLO.out _ (HA.out.below B2.out)).mono ?_
  rintro e w3 ⟨rfl, hb⟩
  have CL3 := Lib.hid (CL2.out.below hb)
  have B3 := Lib.hid (B2.out.trans (hb.mono B2.out.size)); clear hb B2 CL2 y0 y1' y2' y3 y4 y5 y6
  cases hl : longP xs with
  | true =>
    go_wp2_with fail
    go_ret
    exact ⟨rfl, B3.out⟩
  | false =>
  have HBW := Lib.hid (HBK.out hl)
  have y0 := CL3.out.head.cell 0; have y1' := CL3.out.head.cell 1; have y2' := CL3.out.head.cell 2; have y3 := CL3.out.head.cell 3; have y4 := CL3.out.head.cell 4; have y5 := CL3.out.head.cell 5; have y6 := CL3.out.head.cell 6
  have z0 := CL3.out.tail.head.cell 0; have z1 := CL3.out.tail.head.cell 1; have z2 := CL3.out.tail.head.cell 2; have z3 := CL3.out.tail.head.cell 3
  simp at y0 y1' y2' y3 y4 y5 y6 z0 z1 z2 z3
  clear hl HBK
  go_wp2_with fail
  refine (HP1.out _ (HBW.out _ B3.out) (HT.out.below B3.out) (HS.out.below B3.out)).mono ?_
  rintro e w4 ⟨rfl, hb⟩
  have CL4 := Lib.hid (CL3.out.below hb)
  have B4 := Lib.hid (B3.out.trans (hb.mono B3.out.size)); clear hb B3 CL3 y0 y1' y2' y3 y4 y5 y6 z0 z1 z2 z3
  have y0 := CL4.out.head.cell 0; have y1' := CL4.out.head.cell 1; have y2' := CL4.out.head.cell 2; have y3 := CL4.out.head.cell 3; have y4 := CL4.out.head.cell 4; have y5 := CL4.out.head.cell 5; have y6 := CL4.out.head.cell 6
  have z0 := CL4.out.tail.tail.head.cell 0; have z1 := CL4.out.tail.tail.head.cell 1; have z2 := CL4.out.tail.tail.head.cell 2; have z3 := CL4.out.tail.tail.head.cell 3
  simp at y0 y1' y2' y3 y4 y5 y6 z0 z1 z2 z3
  go_wp2_with fail
  refine (HP2.out _ (HBW.out _ B4.out) (HT.out.below B4.out) (HS.out.below B4.out)).mono ?_
  rintro e w5 ⟨rfl, hb⟩
  have CL5 := Lib.hid (CL4.out.below hb)
  have B5 := Lib.hid (B4.out.trans (hb.mono B4.out.size)); clear hb B4 CL4 y0 y1' y2' y3 y4 y5 y6 z0 z1 z2 z3
  cases q1 : (e1 != 0) with
  | true =>
    go_wp2_with fail
    go_ret
    exact ⟨rfl, B5.out⟩
  | false =>
  cases q2 : (e2 != 0) with
  | true =>
    go_wp2_with fail
    go_ret
    exact ⟨rfl, B5.out⟩
  | false =>
  obtain ⟨hok, ha1, hs1⟩ := mput_ok HR1.out (by simpa using q1)
  obtain ⟨_, ha2, hs2⟩ := mput_ok HR2.out (by simpa using q2)
  have hmo := (okM_iff _).1 hok
  have HO := Lib.hid hmo; have HA1 := Lib.hid ha1; have HA2 := Lib.hid ha2; have HS1 := Lib.hid hs1; have HS2 := Lib.hid hs2
  have hk1 := hmo.a1; have hk2 := hmo.a2
  dsimp only at hk1 hk2
  have hwr : IntKind.i64.wrap (ad - 1) = ad - 1 := by rw [IntKind.wrap_i64]; omega
  clear hok ha1 ha2 hs1 hs2 hmo HP1 HP2 HLO HT HS HBW HR1 HR2 hk1 hk2
  have y0 := CL5.out.head.cell 0; have y1' := CL5.out.head.cell 1
  have z0 := CL5.out.tail.head.cell 0; have z1 := CL5.out.tail.head.cell 1; have z2 := CL5.out.tail.head.cell 2; have z3 := CL5.out.tail.head.cell 3
  have v0 := CL5.out.tail.tail.head.cell 0; have v1 := CL5.out.tail.tail.head.cell 1; have v2 := CL5.out.tail.tail.head.cell 2; have v3 := CL5.out.tail.tail.head.cell 3
  simp at y0 y1' z0 z1 z2 z3 v0 v1 v2 v3
  rcases Int.lt_or_le kd 5 with hkd | hkd
  · have hpv : pV kd = false := by unfold pV; simp; omega
    have hss : s1 = s2 := by rw [HS1.out, HS2.out]; exact mputL_same (.inl hpv)
    subst hss
    go_wp2_with fail
    go_ret
    exact ⟨by simp, B5.out⟩
  have hkd2 : ¬ kd < 5 := by omega
  have hv : pV kd = true := by
    have h := HO.out.kd
    unfold inK at h
    unfold pV
    simp only [Bool.and_eq_true, decide_eq_true_eq] at h ⊢
    exact ⟨hkd, h.2⟩
  have HF1 : Hid (nearB ⟨a1, d1, x1, y1⟩ ad = false → nearB ⟨a2, d2, x2, y2⟩ ad = false → (s1 == s2) = true) := Lib.hid (fun h1 h2 => by rw [HS1.out, HS2.out, mputL_same (.inr ⟨h1, h2⟩)]; exact beq_self_eq_true _)
  have HF2 : Hid (nearB ⟨a1, d1, x1, y1⟩ ad = true → nearB ⟨a2, d2, x2, y2⟩ ad = true → ((s1 == s2) == ((x1 == x2) && (y1 == y2))) = true) := Lib.hid (fun h1 h2 => by rw [HS1.out, HS2.out, mputL_iff hv h1 h2 HA1.out HA2.out]; simp)
  clear hv HO HA1 HA2 HS1 HS2 HM HA HBL
  go_wp2_with fail
  all_goals go_ret
  all_goals refine ⟨?_, B5.out⟩
  all_goals (try exact rfl)
  all_goals clear y0 y1' z0 z1 z2 z3 v0 v1 v2 v3 q1 q2 hwr
  all_goals first
    | (have hn1 : nearB ⟨a1, d1, x1, y1⟩ ad = false := by (first | (simp [nearB, *]; done) | (simp_all [nearB]; done))
       have hn2 : nearB ⟨a2, d2, x2, y2⟩ ad = false := by (first | (simp [nearB, *]; done) | (simp_all [nearB]; done))
       have h2 := HF1.out hn1 hn2
       clear hn1 hn2 HF1 HF2
       first | (rw [h2]; done) | (simp_all; done))
    | (have hn1 : nearB ⟨a1, d1, x1, y1⟩ ad = true := by (first | (simp [nearB, *]; done) | (simp_all [nearB]; done))
       have hn2 : nearB ⟨a2, d2, x2, y2⟩ ad = true := by (first | (simp [nearB, *]; done) | (simp_all [nearB]; done))
       have h2 := HF2.out hn1 hn2
       clear hn1 hn2 HF1 HF2
       first | (rw [h2]; done) | (simp_all; done))
end Go.Proofs.YtcojnigkgbmbmaaGreatDoor
