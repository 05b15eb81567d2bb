/- Law19, Known19, Pred19 -/
import Derived.Test.YtcojnigkgbmbmaaGreatDoorR30
import Derived.Test.YtcojnigkgbmbmaaGreatDoorR33
import Derived.Test.YtcojnigkgbmbmaaGreatDoorR18
import Derived.Test.YtcojnigkgbmbmaaGreatDoorR02
import Derived.Deep.DeepCutAuto
namespace Go.Proofs.YtcojnigkgbmbmaaGreatDoor
open Go Go.RowKit
attribute [local go_sem] Oper.semAt_some
theorem bks_of {w W : World} {b : Nat} {A : Option Addr} {c : Nat} {xs ys : List BkE} {B : Option Addr} (hB : BksAt w B ys) (he : xs.map (·.1) = ys.map (·.1)) (hrow : W.ownsRow b 81 2 (.slice A xs.length c) xs.length (rowC bkC xs)) (hp : ∀ p ∈ xs, W.ownsRow b 109 2 (.slice p.2.1 p.1.l.length p.2.2) p.1.l.length (rowC pairC p.1.l)) : BksAt W A xs := by
  have hl : xs.length = ys.length := by have h := congrArg List.length he; rwa [List.length_map, List.length_map] at h
  refine ⟨?_, fun p hm => ?_, by rw [hl]; exact hB.len, fun p hm => ?_⟩
  · obtain ⟨A', c', e, h⟩ := own_sl2 hrow
    cases e
    exact h
  · obtain ⟨A', c', e, h⟩ := own_sl2 (hp p hm)
    cases e
    exact h
  · have h : p.1 ∈ ys.map (·.1) := by rw [← he]; exact List.mem_map.2 ⟨p, hm, rfl⟩
    obtain ⟨q, hq, e⟩ := List.mem_map.1 h
    rw [← e]
    exact hB.lens q hq
theorem bks_nil (w : World) (A : Option Addr) : BksAt w A [] := ⟨(fun i v h => by simp [rowC] at h), (fun p h => by cases h), by decide, (fun p h => by cases h)⟩
set_option maxRecDepth 100000 in
theorem law19_puts (m : MacM) (x : LastM) (xs : List BkE) (A : Option Addr) (c : Nat) (want : List UInt8) (er : Int) (s : ByteArray) (w : World) (hs : s = bs want) (h : mputP m x = (want, er)) (hm : m.bl = xs.map (·.1)) (hA : BksAt w A xs) (hT : Tz w) (hTs : Ts w) :
    Calls Tryz.prog 23 #[macV m A xs.length c, lastV x, .string s, .int .i64 er] w fun e w' => e = .returned (.bool true) ∧ Below w.heap.size w w' := by
  subst hs
  have C := Lib.hid (fun W h1 h2 h3 => macro_Put m x xs A c W hm h1 h2 h3)
  rw [h] at C
  dsimp only at C
  have hb0 : Below w.heap.size w (w.alloc (.cells #[.int .i64 m.ad, .int .i64 m.kd, .int .i64 m.qu, .int .i64 m.x, .int .i64 m.y, .int .i64 m.pa, .slice A xs.length c] 29)) := (Below.refl _ w).alloc (Nat.le_refl _) _
  have hb1 := hb0.alloc hb0.size (.cells #[.int .i64 x.ad, .bool x.had, .int .i64 x.x, .int .i64 x.y] 24)
  have hc1 := (Blk.new w 29 #[.int .i64 m.ad, .int .i64 m.kd, .int .i64 m.qu, .int .i64 m.x, .int .i64 m.y, .int .i64 m.pa, .slice A xs.length c]).alloc (.cells #[.int .i64 x.ad, .bool x.had, .int .i64 x.x, .int .i64 x.y] 24)
  have HB1 := Lib.hid hb1
  have HC := Lib.hid (C.out _ (hA.below hb1 (Nat.le_refl _)) (hT.below hb1) (hTs.below hb1))
  have x0 := hc1.cell 0; have x1 := hc1.cell 1; have x2 := hc1.cell 2; have x3 := hc1.cell 3; have x4 := hc1.cell 4; have x5 := hc1.cell 5; have x6 := hc1.cell 6
  simp at x0 x1 x2 x3 x4 x5 x6
  clear hb0 hb1 hc1 C h hm hA hT hTs
  unfold macV lastV at *
  go_enter Tryz.func23, Tryz.ntmps23
  go_wp2_with (go_at_call 17; refine HC.out.mono ?_; rintro e w2 ⟨rfl, hb2⟩; have HB2 := Lib.hid hb2; clear hb2 x0 x1 x2 x3 x4 x5 x6)
  go_ret
  exact ⟨by simp, HB1.out.trans (HB2.out.mono HB1.out.size)⟩
set_option maxRecDepth 100000 in
set_option maxHeartbeats 4000000 in
theorem law19_gets (A : Option Addr) (n c : Nat) (l : List UInt8) (i ad : Int) (x : LastM) (want : MacM) (ys : List BkE) (B : Option Addr) (d : Nat) (size er : Int) (w : World) (hA : Sl w A (l.map byteV)) (hn : l.length = n) (hsz : n ≤ 2 ^ 47) (hT : Ts w) (hi : -9223372036854775808 ≤ i ∧ i ≤ 9223372036854775807)
    (h : mgetP l i ad x = (want, size, er)) (hm : want.bl = ys.map (·.1)) (hB : BksAt w B ys) :
    Calls Tryz.prog 24 #[.slice A n c, .int .i64 i, .int .i64 ad, lastV x, macV want B ys.length d, .int .i64 size, .int .i64 er] w fun e w' => e = .returned (.bool true) ∧ Below w.heap.size w w' := by
  have hb0 : Below w.heap.size w (w.alloc (.cells #[.int .i64 x.ad, .bool x.had, .int .i64 x.x, .int .i64 x.y] 24)) := (Below.refl _ w).alloc (Nat.le_refl _) _
  have hb1 := hb0.alloc hb0.size (.cells #[.int .i64 want.ad, .int .i64 want.kd, .int .i64 want.qu, .int .i64 want.x, .int .i64 want.y, .int .i64 want.pa, .slice B ys.length d] 29)
  have C := Lib.hid (macro_Get A n c l i ad x _ (hA.below hb1) hn hsz (hT.below hb1) hi)
  rw [h] at C
  have hc1 := (Blk.new w 24 #[.int .i64 x.ad, .bool x.had, .int .i64 x.x, .int .i64 x.y]).alloc (.cells #[.int .i64 want.ad, .int .i64 want.kd, .int .i64 want.qu, .int .i64 want.x, .int .i64 want.y, .int .i64 want.pa, .slice B ys.length d] 29)
  have hc2 : Blk ((w.alloc (.cells #[.int .i64 x.ad, .bool x.had, .int .i64 x.x, .int .i64 x.y] 24)).alloc (.cells #[.int .i64 want.ad, .int .i64 want.kd, .int .i64 want.qu, .int .i64 want.x, .int .i64 want.y, .int .i64 want.pa, .slice B ys.length d] 29)) (w.heap.size + 1) 29 #[.int .i64 want.ad, .int .i64 want.kd, .int .i64 want.qu, .int .i64 want.x, .int .i64 want.y, .int .i64 want.pa, .slice B ys.length d] := blkAt (Blk.new _ _ _) (by simp)
  have HB1 := Lib.hid hb1; have HC2 := Lib.hid hc2
  have HBK := Lib.hid (hB.below hb1 (Nat.le_refl _)); have HM := Lib.hid hm
  have x0 := hc1.cell 0; have x1 := hc1.cell 1; have x2 := hc1.cell 2; have x3 := hc1.cell 3
  simp at x0 x1 x2 x3
  have hss := sameM_iff.2 (rfl : want = want)
  have HSS := Lib.hid hss
  clear hb0 hb1 hc1 hc2 h hA hT hB hm hss
  unfold macV lastV at *
  go_enter Tryz.func24, Tryz.ntmps24
  go_wp2_with (first | (go_at_call 11; refine C.out.mono ?_; rintro e w2 ⟨hb2, v, xs, hret, hbl, hrow, hprs⟩; obtain ⟨A2, c2, hv⟩ := own_slN hrow; subst hv; unfold MgC at hret; subst hret; have HB2 := Lib.hid hb2; have HBX := Lib.hid (bks_of HBK.out (hbl.symm.trans HM.out) hrow hprs); have HBL := Lib.hid hbl; have hw := (HC2.out.below hb2 HC2.out.lt).alloc (.cells #[.int .i64 want.ad, .int .i64 want.kd, .int .i64 want.qu, .int .i64 want.x, .int .i64 want.y, .int .i64 want.pa, .slice A2 xs.length c2] 29); have y0 := hw.cell 0; have y1 := hw.cell 1; have y2 := hw.cell 2; have y3 := hw.cell 3; have y4 := hw.cell 4; have y5 := hw.cell 5; have y6 := hw.cell 6; simp at y0 y1 y2 y3 y4 y5 y6; clear hb2 hbl hrow hprs hw x0 x1 x2 x3; have HBY := Lib.hid (HBK.out.below HB2.out (Nat.le_refl _)); have hbb := Below.alloc (Below.refl w2.heap.size w2) (Nat.le_refl _) (.cells #[.int .i64 want.ad, .int .i64 want.kd, .int .i64 want.qu, .int .i64 want.x, .int .i64 want.y, .int .i64 want.pa, .slice A2 xs.length c2] 29); have HSM := Lib.hid (kit_SameMacro want want xs ys A2 B c2 d _ HBL.out HM.out (HBX.out.below hbb (Nat.le_refl _)) (HBY.out.below hbb (Nat.le_refl _))); have HBB := Lib.hid hbb; clear hbb; unfold macV at HSM; rw [HSS.out] at HSM) | (go_at_call 13; refine HSM.out.mono ?_; rintro e w3 ⟨rfl, hb3⟩; have HB3 := Lib.hid hb3; clear hb3 y0 y1 y2 y3 y4 y5 y6))
  go_ret
  exact ⟨by simp, HB1.out.trans ((HB2.out.trans ((HBB.out.trans (HB3.out.mono HBB.out.size)).mono HB2.out.size)).mono HB1.out.size)⟩
end Go.Proofs.YtcojnigkgbmbmaaGreatDoor
namespace Go.Proofs.YtcojnigkgbmbmaaGreatDoor
open Go Go.RowKit
attribute [local go_sem] Oper.semAt_some
theorem moved_res (h : Nat) (m : MacM) (v : Value) (tmps : Array Value) (W : World) (hb : Blk W h 29 (MgC m v)) (t0 : tmps.getD 0 undef = .pointer (some ⟨h, 0, none⟩)) : (results Tryz.f25 tmps).run Tryz.prog W = .ok (.agg (MgC m v)) W := by
  unfold MgC at *
  have c0 := hb.cell 0; have c1 := hb.cell 1; have c2 := hb.cell 2; have c3 := hb.cell 3; have c4 := hb.cell 4; have c5 := hb.cell 5; have c6 := hb.cell 6
  simp at c0 c1 c2 c3 c4 c5 c6
  have t0' : tmps[0]?.getD undef = .pointer (some ⟨h, 0, none⟩) := by simpa using t0
  simp [results, Tryz.results25, t0', asAddr, c0, c1, c2, c3, c4, c5, c6, go_sem]
theorem law19_moved (w : World) : Calls Tryz.prog 25 #[] w fun e w' => e = .returned (macV movedM none 0 0) ∧ Below w.heap.size w w' := by
  go_enter Tryz.func25, Tryz.ntmps25
  go_wp2_with fail
  refine bodyPost_ret (moved_res w.heap.size movedM (.slice none 0 0) _ _ (Blk.new w 29 (MgC movedM (.slice none 0 0))) rfl) rfl ⟨rfl, (Below.refl _ w).alloc (Nat.le_refl _) _⟩
set_option maxRecDepth 100000 in
set_option maxHeartbeats 4000000 in
theorem law19_awake (w : World) (hT : Tz w) (hTs : Ts w) : Calls Tryz.prog 9 #[] w fun e w' => e = .returned (.bool true) ∧ Below w.heap.size w w' := by
  have HT := Lib.hid hT; have HS := Lib.hid hTs; clear hT hTs
  have sl2 : ∀ (W : World) (x y : UInt8), Sl (W.alloc (.cells #[byteV x, byteV y] 5)) (some ⟨W.heap.size, 0, none⟩) ([x, y].map byteV) := fun W x y => Blk.sl (Blk.new W 5 _) 0
  have H2 := Lib.hid sl2; clear sl2
  have B0 := Lib.hid (Below.refl w.heap.size w)
  go_enter Tryz.func9, Tryz.ntmps9
  go_wp2_with fail
  refine (law19_moved _).mono ?_
  rintro e w1 ⟨rfl, hb⟩
  have B1 := Lib.hid (B0.out.trans (hb.mono B0.out.size)); clear hb B0
  go_wp2_with fail
  refine (law19_puts movedM last0 [] none 0 [48, 48, 48, 48, 48, 48, 48, 48, 49, 48, 49, 48, 48, 49, 49] 0 _ _ rfl known_put rfl (bks_nil _ _) (HT.out.below B1.out) (HS.out.below B1.out)).mono ?_
  rintro e w2 ⟨rfl, hb⟩
  have B2 := Lib.hid (B1.out.trans (hb.mono B1.out.size)); clear hb B1
  go_wp2_with fail
  refine (law19_moved _).mono ?_
  rintro e w3 ⟨rfl, hb⟩
  have hal := B2.out.alloc B2.out.size (.cells #[byteV 0, byteV 166] 5)
  have hs2 := (H2.out w2 0 166).below hb
  have B3 := Lib.hid (hal.trans (hb.mono hal.size)); have HS2 := Lib.hid hs2; clear hb B2 hal hs2
  go_wp2_with fail
  refine (law19_gets _ 2 _ [0, 166] 0 1 last0 movedM [] none 0 15 0 _ HS2.out rfl (by decide) (HS.out.below B3.out) (by decide) known_get rfl (bks_nil _ _)).mono ?_
  rintro e w4 ⟨rfl, hb⟩
  have B4 := Lib.hid (B3.out.trans (hb.mono B3.out.size)); clear hb B3
  go_wp2_with fail
  go_ret
  exact ⟨rfl, B4.out⟩
end Go.Proofs.YtcojnigkgbmbmaaGreatDoor
namespace Go.Proofs.YtcojnigkgbmbmaaGreatDoor
open Go Go.RowKit
attribute [local go_sem] Oper.semAt_some
end Go.Proofs.YtcojnigkgbmbmaaGreatDoor
