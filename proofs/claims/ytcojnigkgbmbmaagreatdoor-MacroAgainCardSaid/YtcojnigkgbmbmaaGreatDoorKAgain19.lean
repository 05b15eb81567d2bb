/- MacroAgain answers true. -/
import Derived.Test.YtcojnigkgbmbmaaGreatDoorKBack19
import Derived.Test.YtcojnigkgbmbmaaGreatDoorKAgainQ
namespace Go.Proofs.YtcojnigkgbmbmaaGreatDoor
open Go Go.RowKit
attribute [local go_sem] Oper.semAt_some
theorem mget_err {l : List UInt8} {i ad : Int} {x : LastM} (h : (mgetP l i ad x).2.2 ≠ 0) : (mgetP l i ad x).1 = m0 ∧ (mgetP l i ad x).2.1 = 0 := by
  unfold mgetP at h ⊢
  dsimp only at h ⊢
  split at h
  · rename_i c; rw [if_pos c]; exact ⟨rfl, rfl⟩
  rename_i c0; rw [if_neg c0]
  split at h
  · rename_i c; rw [if_pos c]; exact ⟨rfl, rfl⟩
  rename_i c1; rw [if_neg c1]
  split at h
  · rename_i c; rw [if_pos c]; exact ⟨rfl, rfl⟩
  rename_i c2; rw [if_neg c2]
  split at h
  · rename_i c; rw [if_pos c]; exact ⟨rfl, rfl⟩
  rename_i c3; rw [if_neg c3]
  split at h
  · rename_i c; rw [if_pos c]; exact ⟨rfl, rfl⟩
  rename_i c4; rw [if_neg c4]
  split at h
  · rename_i c; rw [if_pos c]; exact ⟨rfl, rfl⟩
  rename_i c5; rw [if_neg c5]
  split at h
  · rename_i c; rw [if_pos c]; exact ⟨rfl, rfl⟩
  · exact absurd rfl h
theorem bks_ok {W : World} {b : Nat} {A : Option Addr} {c : Nat} {m : MacM} {xs : List BkE} (hm : MOk m) (he : m.bl = xs.map (·.1)) (hrow : W.ownsRow b 81 2 (.slice A xs.length c) xs.length (rowC bkC xs)) (hp : ∀ p ∈ xs, W.ownsRow b 109 2 (.slice p.2.1 p.1.l.length p.2.2) p.1.l.length (rowC pairC p.1.l)) : BksAt W A xs := by
  have h6 : cntP m.pa ≤ 6 := by unfold cntP; split <;> omega
  have hl := hm.len
  rw [he, List.length_map] at hl
  refine ⟨?_, fun p hq => ?_, by omega, fun p hq => ?_⟩
  · obtain ⟨A', c', e, h⟩ := own_sl2 hrow
    cases e
    exact h
  · obtain ⟨A', c', e, h⟩ := own_sl2 (hp p hq)
    cases e
    exact h
  · have h1 := hm.bl p.1 (by rw [he]; exact List.mem_map.2 ⟨p, hq, rfl⟩)
    have hfr : 0 ≤ frstP (pI m.kd) ∧ frstP (pI m.kd) ≤ 1 := by cases (pI m.kd) <;> decide
    have h2 := (spread_ok p.1.l _ hfr.1 (by omega) (bchk_ok h1).1).1
    omega
set_option maxRecDepth 100000 in
set_option maxHeartbeats 16000000 in
theorem law19_Again (B : Option Addr) (nb c2 : Nat) (l : List UInt8) (ad0 : Int) (x : LastM) (w : World) (hB : Sl w B (l.map byteV)) (hn : l.length = nb) (hT : Tz w) (hTs : Ts w) :
    Calls Tryz.prog 7 #[.slice B nb c2, .int .i64 ad0, lastV x] w fun e w' => e = .returned (.bool true) ∧ Below w.heap.size w w' := by
  have HT := Lib.hid hT; have HS := Lib.hid hTs; have HBE := Lib.hid hB; have HN := Lib.hid hn
  have hb1 := (Below.refl w.heap.size w).alloc (Nat.le_refl _) (.cells #[.int .i64 x.ad, .bool x.had, .int .i64 x.x, .int .i64 x.y] 24)
  have hcl : CellsAt [(w.heap.size, 24, #[.int .i64 x.ad, .bool x.had, .int .i64 x.x, .int .i64 x.y])] (w.alloc (.cells #[.int .i64 x.ad, .bool x.had, .int .i64 x.x, .int .i64 x.y] 24)) :=
    CellsAt.cons (Blk.new w _ _) (cellsAt_nil _)
  have HB1 := Lib.hid hb1; have HCL := Lib.hid hcl
  obtain ⟨q0, hq0⟩ : ∃ q0, ad0 % 33 = q0 := ⟨_, rfl⟩
  have hq1 : 0 ≤ q0 ∧ q0 < 33 := by omega
  have HPK := Lib.hid (fun W => kit_Pick ad0 33 W (by decide) (by decide))
  rw [hq0] at HPK
  obtain ⟨ad, had⟩ : ∃ ad, 1 + q0 = ad := ⟨_, rfl⟩
  have hwa : IntKind.i64.wrap (1 + q0) = ad := by rw [IntKind.wrap_i64]; omega
  obtain ⟨⟨⟨ma, mk, mq, mx, my, mp, ml⟩, nn, er⟩, hr⟩ : ∃ r, mgetP l 0 ad x = r := ⟨_, rfl⟩
  have HG := Lib.hid hr
  have HGE := Lib.hid (fun (W : World) h1 h2 h3 h4 => macro_Get B nb c2 l 0 ad x W h1 h2 h3 h4 (by decide))
  rw [hr] at HGE
  clear hT hTs hB hn hb1 hcl hr hq0 hq1
  obtain ⟨a1, d1, X1, Y1⟩ := x
  unfold lastV at HGE ⊢
  dsimp only at HB1 HCL HGE HG ⊢
  have HAD := Lib.hid had
  clear had
  go_enter Tryz.func7, Tryz.ntmps7
  go_wp2_with fail
  refine (law19_Known _ (HT.out.below HB1.out) (HS.out.below HB1.out)).mono ?_
  rintro e w2 ⟨rfl, hb⟩
  have CL2 := Lib.hid (HCL.out.below hb)
  have B2 := Lib.hid (HB1.out.trans (hb.mono HB1.out.size)); clear hb HB1 HCL
  obtain ⟨g0, hg0⟩ : ∃ g0, w.heap.size = g0 := ⟨_, rfl⟩
  have HG0 := Lib.hid (show w.heap.size ≤ g0 by omega)
  rw [hg0] at CL2 ⊢
  clear hg0
  rcases Nat.lt_or_ge 200 nb with hbn | hbn
  · have hb2 : ((200 : Int) < (nb : Int)) := by omega
    go_wp2_with fail
    go_ret
    exact ⟨rfl, B2.out⟩
  have hb2 : ¬ ((200 : Int) < (nb : Int)) := by omega
  have HBN := Lib.hid hbn
  have hcl2 := CL2.out
  have z0 := hcl2.head.cell 0; have z1 := hcl2.head.cell 1; have z2 := hcl2.head.cell 2; have z3 := hcl2.head.cell 3
  simp at z0 z1 z2 z3
  clear hcl2 hbn
  go_wp2_with (go_at_call 26; refine (HPK.out _).mono ?_; rintro e w3 ⟨rfl, rfl⟩)
  refine (HGE.out w2 (HBE.out.below B2.out) HN.out (by have := HBN.out; omega) (HS.out.below B2.out)).mono ?_
  rintro e w4 ⟨hb4, v, xs, hret, hbl, hrow, hprs⟩
  obtain ⟨A2, c3, hv⟩ := own_slN hrow
  subst hv
  unfold MgC at hret
  dsimp only at hret hbl hrow
  subst hret
  have HB4 := Lib.hid hb4; have HBL := Lib.hid hbl; have HRW := Lib.hid hrow; have HPR := Lib.hid hprs
  have B4 := Lib.hid (B2.out.trans (hb4.mono B2.out.size))
  have CL4 := Lib.hid (CL2.out.below hb4)
  obtain ⟨g8, hg8⟩ : ∃ g8, w4.heap.size = g8 := ⟨_, rfl⟩
  clear hb4 hbl hrow hprs z0 z1 z2 z3
  obtain ⟨n6, hn6⟩ : ∃ n6, xs.length = n6 := ⟨_, rfl⟩
  rw [hn6]
  have HN6 := Lib.hid hn6
  clear hn6
  cases q1 : (er != 0) with
  | true =>
    have hne : er ≠ 0 := by simpa using q1
    have hme := mget_err (l := l) (i := 0) (ad := ad) (x := ⟨a1, d1, X1, Y1⟩) (by rw [HG.out]; exact hne)
    rw [HG.out] at hme
    obtain ⟨e1, e2⟩ := hme
    dsimp only at e1 e2
    unfold m0 at e1
    injection e1 with i1 i2 i3 i4 i5 i6 i7
    subst i1 i2 i3 i4 i5 i6 i7 e2
    have hx0 : xs = [] := List.map_eq_nil_iff.1 HBL.out.symm
    subst hx0
    obtain rfl : n6 = 0 := HN6.out.symm
    have hSM := fun W => kit_SameMacro m0 m0 [] [] A2 none c3 0 W rfl rfl (bks_nil _ _) (bks_nil _ _)
    rw [sameM_iff.2 rfl] at hSM
    have HSM := Lib.hid hSM
    unfold macV m0 at HSM
    dsimp only at HSM
    clear hSM hne
    go_wp2_with fail
    refine (HSM.out _).mono ?_
    rintro e w5 ⟨rfl, hb5⟩
    have HB5 := Lib.hid hb5
    clear hb5
    go_wp2_with fail
    go_ret
    exact ⟨by simp, (B4.out.alloc B4.out.size _).trans (HB5.out.mono (by have := B4.out.size; rw [World.size_alloc]; omega))⟩
  | false =>
    have he0 : er = 0 := by simpa using q1
    subst he0
    have hgt := mget_got (l := l) (i := 0) (ad := ad) (x := ⟨a1, d1, X1, Y1⟩) (by decide) (by omega) (by rw [HG.out])
    rw [HG.out] at hgt
    obtain ⟨hok, had2, hax, hlen, hend, hone⟩ := hgt
    dsimp only at had2 hlen hend hone
    subst had2
    obtain ⟨k1, k2, k3, k4⟩ := bks_ok hok HBL.out HRW.out HPR.out
    have HBK : Hid (∀ W, Below w4.heap.size w4 W → BksAt W A2 xs) := Lib.hid fun W hb => ⟨k1.below hb, fun p hp => (k2 p hp).below hb, k3, k4⟩
    have hmp : mputP ⟨ma, mk, mq, mx, my, mp, ml⟩ ⟨a1, d1, X1, Y1⟩ = (mputL ⟨ma, mk, mq, mx, my, mp, ml⟩ ⟨a1, d1, X1, Y1⟩, 0) := by
      unfold mputP
      rw [(okM_iff _).2 hok]
      dsimp only
      rw [hax]
      rfl
    have hbi : Bits (mputL ⟨ma, mk, mq, mx, my, mp, ml⟩ ⟨a1, d1, X1, Y1⟩) := bits_mput _ _
    have hck := fun W h => macro_Check ⟨ma, mk, mq, mx, my, mp, ml⟩ xs A2 c3 W HBL.out h
    rw [(okM_iff _).2 hok, HN6.out] at hck
    unfold macV at hck
    simp only [if_true] at hck
    have HCK := Lib.hid hck; have HOK := Lib.hid hok; have HAX := Lib.hid hax
    have hp1 := fun W h1 h2 h3 => macro_Put ⟨ma, mk, mq, mx, my, mp, ml⟩ ⟨a1, d1, X1, Y1⟩ xs A2 c3 W HBL.out h1 h2 h3
    rw [hmp, HN6.out] at hp1
    obtain ⟨s, hs⟩ : ∃ s, mputL ⟨ma, mk, mq, mx, my, mp, ml⟩ ⟨a1, d1, X1, Y1⟩ = s := ⟨_, rfl⟩
    rw [hs] at hp1 hlen hbi
    unfold macV lastV at hp1
    dsimp only at hp1
    have HP1 := Lib.hid hp1; have HS1 := Lib.hid hs; have HBI := Lib.hid hbi
    have hnl := HN.out
    have hbn := HBN.out
    obtain ⟨sl, hsl⟩ : ∃ sl, s.length = sl := ⟨_, rfl⟩
    rw [hsl] at hlen
    rw [hnl] at hend
    have HSL := Lib.hid hsl
    have g1 : ¬ (nn < 1) := by omega
    have g2 : ¬ (8 * (nb : Int) < nn) := by omega
    have g3 : ¬ (nn < (s.length : Int)) := by rw [hsl]; omega
    have g4 : IntKind.i64.wrap (8 * (nb : Int)) = 8 * (nb : Int) := by rw [IntKind.wrap_i64]; omega
    have HSM : Hid (sl ≤ 1600) := Lib.hid (by omega)
    have B1 := B4.out.alloc B4.out.size (.cells #[.int .i64 ma, .int .i64 mk, .int .i64 mq, .int .i64 mx, .int .i64 my, .int .i64 mp, .slice A2 n6 c3] 29)
    have E1 := (Below.refl _ w4).alloc (Nat.le_refl _) (.cells #[.int .i64 ma, .int .i64 mk, .int .i64 mq, .int .i64 mx, .int .i64 my, .int .i64 mp, .slice A2 n6 c3] 29)
    have C1 := CellsAt.cons (blkAt (Blk.new w4 29 #[.int .i64 ma, .int .i64 mk, .int .i64 mq, .int .i64 mx, .int .i64 my, .int .i64 mp, .slice A2 n6 c3]) hg8) (CL4.out.alloc (.cells #[.int .i64 ma, .int .i64 mk, .int .i64 mq, .int .i64 mx, .int .i64 my, .int .i64 mp, .slice A2 n6 c3] 29))
    have z0 := C1.tail.head.cell 0; have z1 := C1.tail.head.cell 1; have z2 := C1.tail.head.cell 2; have z3 := C1.tail.head.cell 3
    simp at z0 z1 z2 z3
    have HB1 := Lib.hid B1; have HE1 := Lib.hid E1; have HC1 := Lib.hid C1
    clear hp1 hs hbi hok hax hck hmp k1 k2 k3 k4 hlen hend hone hnl hbn hsl B1 E1 C1 HPR HRW HPK HGE
    go_wp2_with fail
    refine (HP1.out _ (HBK.out _ HE1.out) (HT.out.below HB1.out) (HS.out.below HB1.out)).mono ?_
    rintro e w5 ⟨rfl, hb5⟩
    have CL5 := HC1.out.below hb5
    have HB5 := Lib.hid (HB1.out.trans (hb5.mono HB1.out.size)); have HE5 := Lib.hid (HE1.out.trans (hb5.mono HE1.out.size)); have HC5 := Lib.hid CL5
    clear z0 z1 z2 z3 hb5 CL5 HB1 HE1 HC1
    go_wp2_with fail
    refine (bits_NewPen _).mono ?_
    rintro e w6 ⟨rfl, hp⟩
    obtain ⟨hh, hhh⟩ : ∃ hh, w5.heap.size = hh := ⟨_, rfl⟩
    have HH := Lib.hid (show w5.heap.size ≤ hh by omega)
    rw [hhh] at hp ⊢
    have HP := Lib.hid hp
    have HBW : Hid (∀ (L : List UInt8) (W : World), PenW w5 hh L W → Below w.heap.size w W ∧ Below w4.heap.size w4 W ∧ CellsAt [(g8, 29, #[.int .i64 ma, .int .i64 mk, .int .i64 mq, .int .i64 mx, .int .i64 my, .int .i64 mp, .slice A2 n6 c3]), (g0, 24, #[.int .i64 a1, .bool d1, .int .i64 X1, .int .i64 Y1])] W) := Lib.hid (fun L W hp => by
      obtain ⟨v, hc⟩ := hp
      exact ⟨HB5.out.trans (hc.1.mono HB5.out.size), HE5.out.trans (hc.1.mono HE5.out.size), HC5.out.below hc.1⟩)
    have HCO := Lib.hid (pen_Code w5 hh [] s HBI.out (by rw [List.length_nil, HSL.out]; have := HSM.out; omega) HH.out w6 hp)
    clear hp hhh
    go_wp2_with (first | (go_at_call 28; refine HCO.out.mono ?_; rintro e w7 ⟨rfl, hp7⟩; have HP7 := Lib.hid hp7; have hcl := (HBW.out _ _ hp7).2.2; have y0 := hcl.head.cell 0; have y1 := hcl.head.cell 1; have y2 := hcl.head.cell 2; have y3 := hcl.head.cell 3; have y4 := hcl.head.cell 4; have y5 := hcl.head.cell 5; have y6 := hcl.head.cell 6; simp at y0 y1 y2 y3 y4 y5 y6; clear hcl hp7 HCO) | (go_at_call 19; refine (HCK.out _ (HBK.out _ (HBW.out _ _ HP7.out).2.1)).mono ?_; rintro e w8 ⟨rfl, hb⟩; have HP8 := Lib.hid (HP7.out.below hb); clear hb y0 y1 y2 y3 y4 y5 y6 HP7))
    have hbd : Below w8.heap.size w8 w8.drew := (Below.refl _ _).drew
    have HP9 := Lib.hid (HP8.out.below hbd)
    have HCD := Lib.hid ((HBW.out _ _ HP9.out).2.2)
    have hat := at_pack (X := []) (s := s) (Y := []) HBI.out
    rw [List.append_nil, List.length_nil] at hat
    have hat2 := hat
    rw [← HS1.out] at hat2
    have hget := mget_at HOK.out HAX.out hat2
    rw [HS1.out] at hget
    have HBY := Lib.hid (pen_Bytes w5 hh _ (by rw [List.nil_append, HSL.out]; have := HSM.out; omega) w8.drew HP9.out)
    have hpl : (packL ([] ++ s)).length ≤ 2 ^ 30 := by rw [packL_length, List.nil_append, HSL.out]; have := HSM.out; omega
    have HPL := Lib.hid hpl; have HGET := Lib.hid hget
    clear hbd hat hat2 hget hpl
    generalize packL ([] ++ s) = PL at *
    obtain ⟨np, hnp⟩ : ∃ np, PL.length = np := ⟨_, rfl⟩
    rw [hnp] at HBY HPL
    have HNP := Lib.hid hnp
    clear hnp
    refine wp_region_treeN (fun w' => CellsAt [(g8, 29, #[.int .i64 ma, .int .i64 mk, .int .i64 mq, .int .i64 mx, .int .i64 my, .int .i64 mp, .slice A2 n6 c3]), (g0, 24, #[.int .i64 a1, .bool d1, .int .i64 X1, .int .i64 Y1])] w') 12 (.take 0 (.take 1 (.take 2 (.take 4 (.take 5 (.take 6 (.take 7 (.take 8 (.step 3 (.step 9 (.take 10 (.step 11 .done)))))))))))) (by kernel_rfl) (by kernel_rfl) (by simp only [Pln.out, Array.getD_eq_getD_getElem?, List.getElem?_toArray, List.getElem?_cons_zero, List.getElem?_cons_succ, Option.getD_some]; rfl) (by simp only [List.map_cons, List.map_nil]; rfl) (HCD.out) (fun PE hPE => ?_)
    refine tree_take (v := ?_) rfl (by rfl) ?_ ?_
    rotate_left
    · intro _ hSw; (try dsimp only at hSw); have u0 := hSw.head.cell 0; have u1 := hSw.head.cell 1; have u2 := hSw.head.cell 2; have u3 := hSw.head.cell 3; have u4 := hSw.head.cell 4; have u5 := hSw.head.cell 5; have u6 := hSw.head.cell 6; have v0 := hSw.tail.head.cell 0; have v1 := hSw.tail.head.cell 1; have v2 := hSw.tail.head.cell 2; have v3 := hSw.tail.head.cell 3; (try dsimp only at u0 u1 u2 u3 u4 u5 u6 v0 v1 v2 v3); go_simp; (try with_reducible rfl)
    simp only [List.setIfInBounds_toArray, List.set_cons_zero, List.set_cons_succ]
    refine tree_take (v := ?_) rfl (by rfl) ?_ ?_
    rotate_left
    · intro _ hSw; (try dsimp only at hSw); have u0 := hSw.head.cell 0; have u1 := hSw.head.cell 1; have u2 := hSw.head.cell 2; have u3 := hSw.head.cell 3; have u4 := hSw.head.cell 4; have u5 := hSw.head.cell 5; have u6 := hSw.head.cell 6; have v0 := hSw.tail.head.cell 0; have v1 := hSw.tail.head.cell 1; have v2 := hSw.tail.head.cell 2; have v3 := hSw.tail.head.cell 3; (try dsimp only at u0 u1 u2 u3 u4 u5 u6 v0 v1 v2 v3); go_simp; (try with_reducible rfl)
    simp only [List.setIfInBounds_toArray, List.set_cons_zero, List.set_cons_succ]
    refine tree_take (v := ?_) rfl (by rfl) ?_ ?_
    rotate_left
    · intro _ hSw; (try dsimp only at hSw); have u0 := hSw.head.cell 0; have u1 := hSw.head.cell 1; have u2 := hSw.head.cell 2; have u3 := hSw.head.cell 3; have u4 := hSw.head.cell 4; have u5 := hSw.head.cell 5; have u6 := hSw.head.cell 6; have v0 := hSw.tail.head.cell 0; have v1 := hSw.tail.head.cell 1; have v2 := hSw.tail.head.cell 2; have v3 := hSw.tail.head.cell 3; (try dsimp only at u0 u1 u2 u3 u4 u5 u6 v0 v1 v2 v3); go_simp; (try with_reducible rfl)
    simp only [List.setIfInBounds_toArray, List.set_cons_zero, List.set_cons_succ]
    refine tree_take (v := ?_) rfl (by rfl) ?_ ?_
    rotate_left
    · intro _ hSw; (try dsimp only at hSw); have u0 := hSw.head.cell 0; have u1 := hSw.head.cell 1; have u2 := hSw.head.cell 2; have u3 := hSw.head.cell 3; have u4 := hSw.head.cell 4; have u5 := hSw.head.cell 5; have u6 := hSw.head.cell 6; have v0 := hSw.tail.head.cell 0; have v1 := hSw.tail.head.cell 1; have v2 := hSw.tail.head.cell 2; have v3 := hSw.tail.head.cell 3; (try dsimp only at u0 u1 u2 u3 u4 u5 u6 v0 v1 v2 v3); go_simp; (try with_reducible rfl)
    simp only [List.setIfInBounds_toArray, List.set_cons_zero, List.set_cons_succ]
    refine tree_take (v := ?_) rfl (by rfl) ?_ ?_
    rotate_left
    · intro _ hSw; (try dsimp only at hSw); have u0 := hSw.head.cell 0; have u1 := hSw.head.cell 1; have u2 := hSw.head.cell 2; have u3 := hSw.head.cell 3; have u4 := hSw.head.cell 4; have u5 := hSw.head.cell 5; have u6 := hSw.head.cell 6; have v0 := hSw.tail.head.cell 0; have v1 := hSw.tail.head.cell 1; have v2 := hSw.tail.head.cell 2; have v3 := hSw.tail.head.cell 3; (try dsimp only at u0 u1 u2 u3 u4 u5 u6 v0 v1 v2 v3); go_simp; (try with_reducible rfl)
    simp only [List.setIfInBounds_toArray, List.set_cons_zero, List.set_cons_succ]
    refine tree_take (v := ?_) rfl (by rfl) ?_ ?_
    rotate_left
    · intro _ hSw; (try dsimp only at hSw); have u0 := hSw.head.cell 0; have u1 := hSw.head.cell 1; have u2 := hSw.head.cell 2; have u3 := hSw.head.cell 3; have u4 := hSw.head.cell 4; have u5 := hSw.head.cell 5; have u6 := hSw.head.cell 6; have v0 := hSw.tail.head.cell 0; have v1 := hSw.tail.head.cell 1; have v2 := hSw.tail.head.cell 2; have v3 := hSw.tail.head.cell 3; (try dsimp only at u0 u1 u2 u3 u4 u5 u6 v0 v1 v2 v3); go_simp; (try with_reducible rfl)
    simp only [List.setIfInBounds_toArray, List.set_cons_zero, List.set_cons_succ]
    refine tree_take (v := ?_) rfl (by rfl) ?_ ?_
    rotate_left
    · intro _ hSw; (try dsimp only at hSw); have u0 := hSw.head.cell 0; have u1 := hSw.head.cell 1; have u2 := hSw.head.cell 2; have u3 := hSw.head.cell 3; have u4 := hSw.head.cell 4; have u5 := hSw.head.cell 5; have u6 := hSw.head.cell 6; have v0 := hSw.tail.head.cell 0; have v1 := hSw.tail.head.cell 1; have v2 := hSw.tail.head.cell 2; have v3 := hSw.tail.head.cell 3; (try dsimp only at u0 u1 u2 u3 u4 u5 u6 v0 v1 v2 v3); go_simp; (try with_reducible rfl)
    simp only [List.setIfInBounds_toArray, List.set_cons_zero, List.set_cons_succ]
    refine tree_take (v := ?_) rfl (by rfl) ?_ ?_
    rotate_left
    · intro _ hSw; (try dsimp only at hSw); have u0 := hSw.head.cell 0; have u1 := hSw.head.cell 1; have u2 := hSw.head.cell 2; have u3 := hSw.head.cell 3; have u4 := hSw.head.cell 4; have u5 := hSw.head.cell 5; have u6 := hSw.head.cell 6; have v0 := hSw.tail.head.cell 0; have v1 := hSw.tail.head.cell 1; have v2 := hSw.tail.head.cell 2; have v3 := hSw.tail.head.cell 3; (try dsimp only at u0 u1 u2 u3 u4 u5 u6 v0 v1 v2 v3); go_simp; (try with_reducible rfl)
    simp only [List.setIfInBounds_toArray, List.set_cons_zero, List.set_cons_succ]
    refine tree_call (f := 29) rfl (by rfl) (by first | (go_simp; done) | (go_simp; rfl)) HBY.out ?_
    rintro e w9 ⟨⟨A', c', rfl, hcp, hsl⟩, hb9⟩
    have hcd9 := HCD.out.below hb9
    refine ⟨_, rfl, _, fun _ h => h, hcd9, ?_⟩
    simp only [List.setIfInBounds_toArray, List.set_cons_zero, List.set_cons_succ]
    have hbw9 := HBW.out _ _ (HP9.out.below hb9)
    have hg1 := law19_gets A' np c' PL 0 ma ⟨a1, d1, X1, Y1⟩ ⟨ma, mk, mq, mx, my, mp, ml⟩ xs A2 c3 (s.length : Int) 0 w9 hsl HNP.out (by have := HPL.out; omega) (HS.out.below hbw9.1) (by decide) HGET.out HBL.out (HBK.out _ hbw9.2.1)
    rw [HN6.out] at hg1
    unfold macV lastV at hg1
    dsimp only at hg1
    have HW9 := Lib.hid hbw9.1; have HCD9 := Lib.hid hcd9
    clear hbw9 hcd9 hb9 hsl hcp
    refine tree_call (f := 24) rfl (by rfl) (by first | (go_simp; done) | (go_simp; rfl)) hg1 ?_
    rintro e w10 ⟨rfl, hb10⟩
    have HW10 := Lib.hid (HW9.out.trans (hb10.mono HW9.out.size)); have HCD10 := Lib.hid (HCD9.out.below hb10)
    clear hg1 hb10
    refine ⟨_, rfl, _, fun _ h => h, HCD10.out, ?_⟩
    simp only [List.setIfInBounds_toArray, List.set_cons_zero, List.set_cons_succ]
    refine tree_take (v := ?_) rfl (by rfl) ?_ ?_
    rotate_left
    · intro _ hSw; (try dsimp only at hSw); go_simp; (try with_reducible rfl)
    simp only [List.setIfInBounds_toArray, List.set_cons_zero, List.set_cons_succ]
    refine tree_value (v := ?_) (w' := ?_) rfl (by rfl) ?_ ?_ ?_
    rotate_left 2
    · go_simp; (try (constructor <;> with_reducible rfl))
    · exact HCD10.out
    simp only [List.setIfInBounds_toArray, List.set_cons_zero, List.set_cons_succ]
    refine hPE _ _ ?_
    clear hPE PE
    simp only [List.drop_succ_cons, List.drop_zero, List.drop_nil]
    go_wp2_with fail
    refine ⟨rfl, ?_⟩
    go_wp2_with fail
    go_ret
    exact ⟨by simp, HW10.out⟩
end Go.Proofs.YtcojnigkgbmbmaaGreatDoor
