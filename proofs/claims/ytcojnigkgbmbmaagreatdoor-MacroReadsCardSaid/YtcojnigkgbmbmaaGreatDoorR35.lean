/- Back19, Again19, Read19 -/
import Derived.Test.YtcojnigkgbmbmaaGreatDoorR34
import Derived.Test.YtcojnigkgbmbmaaGreatDoorR32
import Derived.Test.YtcojnigkgbmbmaaGreatDoorR11
import Derived.Test.YtcojnigkgbmbmaaGreatDoorR02
import Derived.Test.YtcojnigkgbmbmaaGreatDoorR31
namespace Go.Proofs.YtcojnigkgbmbmaaGreatDoor
open Go Go.RowKit
attribute [local go_sem] Oper.semAt_some
end Go.Proofs.YtcojnigkgbmbmaaGreatDoor
namespace Go.Proofs.YtcojnigkgbmbmaaGreatDoor
open Go Go.RowKit
attribute [local go_sem] Oper.semAt_some
theorem mget_err {l : List UInt8} {i ad : Int} {x : LastM} (h : (mgetP l i ad x).2.2 ≠ 0) : (mgetP l i ad x).1 = m0 ∧ (mgetP l i ad x).2.1 = 0 := by
  unfold mgetP at h ⊢
  dsimp only at h ⊢
  split at h
  · rename_i c; rw [if_pos c]; exact ⟨rfl, rfl⟩
  rename_i c0; rw [if_neg c0]
  split at h
  · rename_i c; rw [if_pos c]; exact ⟨rfl, rfl⟩
  rename_i c1; rw [if_neg c1]
  split at h
  · rename_i c; rw [if_pos c]; exact ⟨rfl, rfl⟩
  rename_i c2; rw [if_neg c2]
  split at h
  · rename_i c; rw [if_pos c]; exact ⟨rfl, rfl⟩
  rename_i c3; rw [if_neg c3]
  split at h
  · rename_i c; rw [if_pos c]; exact ⟨rfl, rfl⟩
  rename_i c4; rw [if_neg c4]
  split at h
  · rename_i c; rw [if_pos c]; exact ⟨rfl, rfl⟩
  rename_i c5; rw [if_neg c5]
  split at h
  · rename_i c; rw [if_pos c]; exact ⟨rfl, rfl⟩
  · exact absurd rfl h
theorem bks_ok {W : World} {b : Nat} {A : Option Addr} {c : Nat} {m : MacM} {xs : List BkE} (hm : MOk m) (he : m.bl = xs.map (·.1)) (hrow : W.ownsRow b 81 2 (.slice A xs.length c) xs.length (rowC bkC xs)) (hp : ∀ p ∈ xs, W.ownsRow b 109 2 (.slice p.2.1 p.1.l.length p.2.2) p.1.l.length (rowC pairC p.1.l)) : BksAt W A xs := by
  have h6 : cntP m.pa ≤ 6 := by unfold cntP; split <;> omega
  have hl := hm.len
  rw [he, List.length_map] at hl
  refine ⟨?_, fun p hq => ?_, by omega, fun p hq => ?_⟩
  · obtain ⟨A', c', e, h⟩ := own_sl2 hrow
    cases e
    exact h
  · obtain ⟨A', c', e, h⟩ := own_sl2 (hp p hq)
    cases e
    exact h
  · have h1 := hm.bl p.1 (by rw [he]; exact List.mem_map.2 ⟨p, hq, rfl⟩)
    have hfr : 0 ≤ frstP (pI m.kd) ∧ frstP (pI m.kd) ≤ 1 := by cases (pI m.kd) <;> decide
    have h2 := (spread_ok p.1.l _ hfr.1 (by omega) (bchk_ok h1).1).1
    omega
end Go.Proofs.YtcojnigkgbmbmaaGreatDoor
namespace Go.Proofs.YtcojnigkgbmbmaaGreatDoor
open Go Go.RowKit
attribute [local go_sem] Oper.semAt_some
theorem mget_in {l : List UInt8} {i ad : Int} {x : LastM} (h : (mgetP l i ad x).2.2 = 0) : 0 ≤ i ∧ i ≤ 8 * (l.length : Int) := by
  rw [mget_ref] at h
  by_cases h1 : i < 0 ∨ ad < 1 ∨ 33 < ad
  · rw [if_pos h1] at h; cases h
  rw [if_neg h1] at h
  refine ⟨by omega, ?_⟩
  rcases Int.lt_or_le (8 * (l.length : Int)) i with h2 | h2
  · exfalso
    rw [tree_far h2] at h
    split at h
    · cases h
    · rw [if_pos (by decide)] at h; cases h
  · exact h2
theorem bks_any {W : World} {b : Nat} {A : Option Addr} {c : Nat} {l : List UInt8} {i ad : Int} {x : LastM} {m : MacM} {nn er : Int} {xs : List BkE} (hr : mgetP l i ad x = (m, nn, er)) (he : m.bl = xs.map (·.1)) (hrow : W.ownsRow b 81 2 (.slice A xs.length c) xs.length (rowC bkC xs)) (hp : ∀ p ∈ xs, W.ownsRow b 109 2 (.slice p.2.1 p.1.l.length p.2.2) p.1.l.length (rowC pairC p.1.l)) : BksAt W A xs := by
  by_cases h : er = 0
  · have h1 : (mgetP l i ad x).2.2 = 0 := by rw [hr]; exact h
    obtain ⟨h2, h3⟩ := mget_in h1
    have h4 := (mget_got h2 h3 h1).1
    rw [hr] at h4
    exact bks_ok h4 he hrow hp
  · have h1 := (mget_err (l := l) (i := i) (ad := ad) (x := x) (by rw [hr]; exact h)).1
    rw [hr] at h1
    dsimp only at h1
    subst h1
    have hx0 : xs = [] := List.map_eq_nil_iff.1 he.symm
    subst hx0
    exact bks_nil _ _
set_option maxRecDepth 100000 in
set_option maxHeartbeats 16000000 in
theorem law19_Reads (B : Option Addr) (nb c2 : Nat) (l : List UInt8) (i ad : Int) (x : LastM) (w : World) (hB : Sl w B (l.map byteV)) (hn : l.length = nb) (hT : Tz w) (hTs : Ts w) (hi : -9223372036854775808 ≤ i ∧ i ≤ 9223372036854775807) :
    Calls Tryz.prog 3 #[.slice B nb c2, .int .i64 i, .int .i64 ad, lastV x] w fun e w' => e = .returned (.bool true) ∧ Below w.heap.size w w' := by
  have HT := Lib.hid hT; have HS := Lib.hid hTs; have HB := Lib.hid hB; have HN := Lib.hid hn; have HI := Lib.hid hi
  have hb1 := (Below.refl w.heap.size w).alloc (Nat.le_refl _) (.cells #[.int .i64 x.ad, .bool x.had, .int .i64 x.x, .int .i64 x.y] 24)
  have hcl : CellsAt [(w.heap.size, 24, #[.int .i64 x.ad, .bool x.had, .int .i64 x.x, .int .i64 x.y])] (w.alloc (.cells #[.int .i64 x.ad, .bool x.had, .int .i64 x.x, .int .i64 x.y] 24)) :=
    CellsAt.cons (Blk.new w _ _) (cellsAt_nil _)
  have HB1 := Lib.hid hb1; have HCL := Lib.hid hcl
  obtain ⟨⟨⟨ma, mk, mq, mx, my, mp, ml⟩, nn, er⟩, hr⟩ : ∃ r, mgetP l i ad x = r := ⟨_, rfl⟩
  have HG := Lib.hid hr
  have hG1 : nb ≤ 300 → ∀ A9 c9 (W : World), Sl W A9 (l.map byteV) → Ts W → Calls Tryz.prog 11 #[.slice A9 nb c9, .int .i64 i, .int .i64 ad, lastV x] W (MGPost W (mgetP l i ad x)) := fun h A9 c9 W h1 h3 => macro_Get A9 nb c9 l i ad x W h1 hn (by omega) h3 hi
  have hG2 : nb ≤ 300 → ∀ (W : World), Sl W B (l.map byteV) → Calls Tryz.prog 12 #[.slice B nb c2, .int .i64 i, .int .i64 ad, lastV x] W (MGPost W (mgetP l i ad x)) := fun h W h1 => ref19_Get B nb c2 l i ad x W h1 hn (by omega) hi
  rw [hr] at hG1 hG2
  have HG1 := Lib.hid hG1; have HG2 := Lib.hid hG2
  clear hT hTs hB hn hi hb1 hcl hr hG1 hG2
  obtain ⟨a1, d1, X1, Y1⟩ := x
  unfold lastV at HG1 HG2 ⊢
  dsimp only at HB1 HCL HG1 HG2 HG ⊢
  rcases Nat.lt_or_ge 300 nb with hbn | hbn
  · have hb2 : ((300 : Int) < (nb : Int)) := by omega
    go_enter Tryz.func3, Tryz.ntmps3
    go_wp2_with fail
    refine (law19_awake _ (HT.out.below HB1.out) (HS.out.below HB1.out)).mono ?_
    rintro e w3 ⟨rfl, hb⟩
    have B3 := Lib.hid (HB1.out.trans (hb.mono HB1.out.size))
    clear hb
    go_wp2_with fail
    go_ret
    exact ⟨rfl, B3.out⟩
  have hb2 : ¬ ((300 : Int) < (nb : Int)) := by omega
  have HBN := Lib.hid hbn
  have HX1 := Lib.hid (HG1.out hbn); have HX2 := Lib.hid (HG2.out hbn)
  clear HG1 HG2 hbn
  go_enter Tryz.func3, Tryz.ntmps3
  go_wp2_with fail
  refine (kit_LentBytes B nb c2 l _ (HB.out.below HB1.out) HN.out (by have := HBN.out; omega)).mono ?_
  rintro e w2 ⟨B9, d9, rfl, hs2, hd1, hd2, hb2'⟩
  have B2 := Lib.hid (HB1.out.trans (hb2'.mono HB1.out.size))
  have CL2 := Lib.hid (HCL.out.below hb2')
  have HLent := Lib.hid hs2; have HD1 := Lib.hid hd1; have HD2 := Lib.hid hd2
  have hs3 : Sl w2 B9 (l.map byteV) := fun k v hk => hs2 k v (by rw [List.map_append, List.getElem?_append_left (List.getElem?_eq_some_iff.1 hk).1]; exact hk)
  have HS3 := Lib.hid hs3
  have l0 := CL2.out.head.cell 0; have l1 := CL2.out.head.cell 1; have l2 := CL2.out.head.cell 2; have l3 := CL2.out.head.cell 3
  simp at l0 l1 l2 l3
  clear hs2 hd1 hd2 hb2' hs3 HB1 HCL
  go_wp2_with fail
  refine (HX1.out B9 d9 w2 HS3.out (HS.out.below B2.out)).mono ?_
  rintro e w3 ⟨hb3, v3, xs, hret, hbl, hrow, hprs⟩
  obtain ⟨A3, c3, hv⟩ := own_slN hrow
  subst hv
  unfold MgC at hret
  dsimp only at hret hbl hrow
  subst hret
  have hbks := bks_any HG.out hbl hrow hprs
  have HK3 : Hid (∀ W, Below w3.heap.size w3 W → BksAt W A3 xs) := Lib.hid (fun W hb => hbks.below hb (Nat.le_refl _))
  have HBL := Lib.hid hbl
  obtain ⟨k, hk⟩ : ∃ k, xs.length = k := ⟨_, rfl⟩
  rw [hk]
  obtain ⟨g3, hg3⟩ : ∃ g, w3.heap.size = g := ⟨_, rfl⟩
  have b3 := B2.out.trans (hb3.mono B2.out.size)
  have B4 := Lib.hid (b3.alloc b3.size (.cells #[.int .i64 ma, .int .i64 mk, .int .i64 mq, .int .i64 mx, .int .i64 my, .int .i64 mp, .slice A3 k c3] 29))
  have W4 := Lib.hid ((Below.refl _ w3).alloc (Nat.le_refl _) (.cells #[.int .i64 ma, .int .i64 mk, .int .i64 mq, .int .i64 mx, .int .i64 my, .int .i64 mp, .slice A3 k c3] 29))
  have V4 := Lib.hid ((hb3.alloc hb3.size (.cells #[.int .i64 ma, .int .i64 mk, .int .i64 mq, .int .i64 mx, .int .i64 my, .int .i64 mp, .slice A3 k c3] 29)))
  have cl4 : CellsAt [(g3, 29, #[.int .i64 ma, .int .i64 mk, .int .i64 mq, .int .i64 mx, .int .i64 my, .int .i64 mp, .slice A3 k c3]), (w.heap.size, 24, #[.int .i64 a1, .bool d1, .int .i64 X1, .int .i64 Y1])] (w3.alloc (.cells #[.int .i64 ma, .int .i64 mk, .int .i64 mq, .int .i64 mx, .int .i64 my, .int .i64 mp, .slice A3 k c3] 29)) := CellsAt.cons (blkAt (Blk.new w3 _ _) hg3) ((CL2.out.below hb3).alloc _)
  have CL4 := Lib.hid cl4
  have HKX := Lib.hid hk
  clear hb3 hbl hrow hprs hbks hk b3 l0 l1 l2 l3 CL2
  have l0 := cl4.tail.head.cell 0; have l1 := cl4.tail.head.cell 1; have l2 := cl4.tail.head.cell 2; have l3 := cl4.tail.head.cell 3
  simp at l0 l1 l2 l3
  clear cl4
  go_wp2_with fail
  refine (HX2.out _ (HB.out.below B4.out)).mono ?_
  rintro e w5 ⟨hb5, v5, ys, hret, hbl5, hrow5, hprs5⟩
  obtain ⟨A6, c6, hv⟩ := own_slN hrow5
  subst hv
  unfold MgC at hret
  dsimp only at hret hbl5 hrow5
  subst hret
  have hbks5 := bks_any HG.out hbl5 hrow5 hprs5
  obtain ⟨k6, hk6⟩ : ∃ k, ys.length = k := ⟨_, rfl⟩
  rw [hk6]
  obtain ⟨g5, hg5⟩ : ∃ g, w5.heap.size = g := ⟨_, rfl⟩
  have b5 := B4.out.trans (hb5.mono B4.out.size)
  have B6 := Lib.hid (b5.alloc b5.size (.cells #[.int .i64 ma, .int .i64 mk, .int .i64 mq, .int .i64 mx, .int .i64 my, .int .i64 mp, .slice A6 k6 c6] 29))
  have W6 := Lib.hid ((W4.out.trans (hb5.mono W4.out.size)).alloc (W4.out.trans (hb5.mono W4.out.size)).size (.cells #[.int .i64 ma, .int .i64 mk, .int .i64 mq, .int .i64 mx, .int .i64 my, .int .i64 mp, .slice A6 k6 c6] 29))
  have V6 := Lib.hid ((V4.out.trans (hb5.mono V4.out.size)).alloc (V4.out.trans (hb5.mono V4.out.size)).size (.cells #[.int .i64 ma, .int .i64 mk, .int .i64 mq, .int .i64 mx, .int .i64 my, .int .i64 mp, .slice A6 k6 c6] 29))
  have cl6 : CellsAt [(g5, 29, #[.int .i64 ma, .int .i64 mk, .int .i64 mq, .int .i64 mx, .int .i64 my, .int .i64 mp, .slice A6 k6 c6]), (g3, 29, #[.int .i64 ma, .int .i64 mk, .int .i64 mq, .int .i64 mx, .int .i64 my, .int .i64 mp, .slice A3 k c3])] (w5.alloc (.cells #[.int .i64 ma, .int .i64 mk, .int .i64 mq, .int .i64 mx, .int .i64 my, .int .i64 mp, .slice A6 k6 c6] 29)) := CellsAt.cons (blkAt (Blk.new w5 _ _) hg5) ((CellsAt.cons (CL4.out.below hb5).head (cellsAt_nil _)).alloc _)
  have HSM := kit_SameMacro ⟨ma, mk, mq, mx, my, mp, ml⟩ ⟨ma, mk, mq, mx, my, mp, ml⟩ xs ys A3 A6 c3 c6 (w5.alloc (.cells #[.int .i64 ma, .int .i64 mk, .int .i64 mq, .int .i64 mx, .int .i64 my, .int .i64 mp, .slice A6 k6 c6] 29)) HBL.out hbl5 (HK3.out _ W6.out) (hbks5.below ((Below.refl _ w5).alloc (Nat.le_refl _) _) (Nat.le_refl _))
  rw [sameM_iff.2 rfl, HKX.out, hk6] at HSM
  unfold macV at HSM
  dsimp only at HSM
  have HSM := Lib.hid HSM
  clear hb5 hbl5 hrow5 hprs5 hbks5 hk6 b5 l0 l1 l2 l3 CL4 B4 W4 V4
  have i0 := cl6.head.cell 0; have i1 := cl6.head.cell 1; have i2 := cl6.head.cell 2; have i3 := cl6.head.cell 3; have i4 := cl6.head.cell 4; have i5 := cl6.head.cell 5; have i6 := cl6.head.cell 6
  have j0 := cl6.tail.head.cell 0; have j1 := cl6.tail.head.cell 1; have j2 := cl6.tail.head.cell 2; have j3 := cl6.tail.head.cell 3; have j4 := cl6.tail.head.cell 4; have j5 := cl6.tail.head.cell 5; have j6 := cl6.tail.head.cell 6
  simp at i0 i1 i2 i3 i4 i5 i6 j0 j1 j2 j3 j4 j5 j6
  clear cl6
  go_wp2_with fail
  refine HSM.out.mono ?_
  rintro e w7 ⟨rfl, hb7⟩
  have B7 := Lib.hid (B6.out.trans (hb7.mono B6.out.size)); have V7 := Lib.hid (V6.out.trans (hb7.mono V6.out.size))
  clear hb7 i0 i1 i2 i3 i4 i5 i6 j0 j1 j2 j3 j4 j5 j6 HSM B6 V6 W6
  go_wp2_with fail
  refine (kit_KeptBytes B9 B nb d9 c2 l w7 (HLent.out.below V7.out) (HB.out.below B7.out) HN.out HD1.out HD2.out).mono ?_
  rintro e w8 ⟨rfl, hb8⟩
  have B8 := Lib.hid (B7.out.trans (hb8.mono B7.out.size))
  clear hb8
  go_wp2_with fail
  refine (law19_awake _ (HT.out.below B8.out) (HS.out.below B8.out)).mono ?_
  rintro e w9 ⟨rfl, hb9⟩
  have B9' := Lib.hid (B8.out.trans (hb9.mono B8.out.size))
  clear hb9
  go_wp2_with fail
  go_ret
  exact ⟨by simp, B9'.out⟩
end Go.Proofs.YtcojnigkgbmbmaaGreatDoor
