/- MacroBack answers true. -/
import Derived.Test.YtcojnigkgbmbmaaGreatDoorKPred19
import Derived.Test.YtcojnigkgbmbmaaGreatDoorKPenC
import Derived.Test.YtcojnigkgbmbmaaGreatDoorKKit
import Derived.Test.YtcojnigkgbmbmaaGreatDoorKMLen
namespace Go.Proofs.YtcojnigkgbmbmaaGreatDoor
open Go Go.RowKit
attribute [local go_sem] Oper.semAt_some
theorem mput_not {m : MacM} {x : LastM} {s : List UInt8} {e : Int} (h : mputP m x = (s, e)) (he : e ≠ 0) : s = [] ∧ e = 2 := by
  unfold mputP at h
  split at h
  · exact absurd (Prod.mk.inj h).2.symm he
  · exact ⟨(Prod.mk.inj h).1.symm, (Prod.mk.inj h).2.symm⟩
set_option maxRecDepth 100000 in
set_option maxHeartbeats 16000000 in
theorem law19_Back (m : MacM) (xs : List BkE) (A : Option Addr) (c : Nat) (x : LastM) (ah : Int) (B : Option Addr) (c2 : Nat) (beh : List UInt8) (w : World) (hm : m.bl = xs.map (·.1)) (hA : Sl w A (rowC bkC xs)) (hbl : ∀ p ∈ xs, Sl w p.2.1 (rowC pairC p.1.l)) (hB : Sl w B (beh.map byteV)) (hT : Tz w) (hTs : Ts w) :
    Calls Tryz.prog 8 #[macV m A xs.length c, lastV x, .int .i64 ah, .slice B beh.length c2] w fun e w' => e = .returned (.bool true) ∧ Below w.heap.size w w' := by
  have HT := Lib.hid hT; have HS := Lib.hid hTs; have HA := Lib.hid hA; have HBL := Lib.hid hbl; have HM := Lib.hid hm; have HBE := Lib.hid hB
  have hb1 := ((Below.refl w.heap.size w).alloc (Nat.le_refl _) (.cells #[.int .i64 m.ad, .int .i64 m.kd, .int .i64 m.qu, .int .i64 m.x, .int .i64 m.y, .int .i64 m.pa, .slice A xs.length c] 29)).alloc (by simp) (.cells #[.int .i64 x.ad, .bool x.had, .int .i64 x.x, .int .i64 x.y] 24)
  have hcl : CellsAt [(w.heap.size, 29, #[.int .i64 m.ad, .int .i64 m.kd, .int .i64 m.qu, .int .i64 m.x, .int .i64 m.y, .int .i64 m.pa, .slice A xs.length c]), (w.heap.size + 1, 24, #[.int .i64 x.ad, .bool x.had, .int .i64 x.x, .int .i64 x.y])]
      ((w.alloc (.cells #[.int .i64 m.ad, .int .i64 m.kd, .int .i64 m.qu, .int .i64 m.x, .int .i64 m.y, .int .i64 m.pa, .slice A xs.length c] 29)).alloc (.cells #[.int .i64 x.ad, .bool x.had, .int .i64 x.x, .int .i64 x.y] 24)) := by
    refine CellsAt.cons ?_ (CellsAt.cons ?_ (cellsAt_nil _))
    · exact (Blk.new w _ _).alloc _
    · exact blkAt (Blk.new _ _ _) (by simp)
  have HB1 := Lib.hid hb1; have HCL := Lib.hid hcl
  have HLO := Lib.hid (fun W hW => law19_Long m xs A c W hW)
  have hlen : longP xs = false → ∀ W, Below w.heap.size w W → BksAt W A xs := fun h W hb => ⟨HA.out.below hb, fun p hp => (HBL.out p hp).below hb, by have := (long_not h).1; omega, fun p hp => by have := (long_not h).2 p hp; omega⟩
  have HBK := Lib.hid hlen
  have HP1 := Lib.hid (fun W h1 h2 h3 => macro_Put m x xs A c W HM.out h1 h2 h3)
  obtain ⟨⟨s1, e1⟩, hr1⟩ : ∃ r, mputP m x = r := ⟨_, rfl⟩
  rw [hr1] at HP1
  dsimp only at HP1
  have HR1 := Lib.hid hr1
  clear hT hTs hA hbl hm hB hb1 hcl hlen hr1
  unfold macV at HLO HP1 ⊢
  unfold lastV at HP1 ⊢
  obtain ⟨ad, kd, qu, mx, my, pa, bl⟩ := m
  obtain ⟨a1, d1, x1, y1⟩ := x
  dsimp only at HB1 HCL HLO HP1 HM ⊢
  obtain ⟨n, hn⟩ : ∃ n, xs.length = n := ⟨_, rfl⟩
  rw [hn] at HB1 HCL HLO HP1 ⊢
  obtain ⟨nb, hnb⟩ : ∃ nb, beh.length = nb := ⟨_, rfl⟩
  rw [hnb]
  have HNB := Lib.hid hnb; have HXN := Lib.hid hn
  clear hn hnb
  go_enter Tryz.func8, Tryz.ntmps8
  go_wp2_with fail
  refine (law19_Known _ (HT.out.below HB1.out) (HS.out.below HB1.out)).mono ?_
  rintro e w2 ⟨rfl, hb⟩
  have CL2 := Lib.hid (HCL.out.below hb)
  have B2 := Lib.hid (HB1.out.trans (hb.mono HB1.out.size)); clear hb HB1 HCL
  obtain ⟨g0, hg0⟩ : ∃ g0, w.heap.size = g0 := ⟨_, rfl⟩
  obtain ⟨g1, hg1⟩ : ∃ g1, g0 + 1 = g1 := ⟨_, rfl⟩
  rw [hg0] at CL2 ⊢
  rw [hg1] at CL2 ⊢
  clear hg0 hg1
  go_wp2_with fail
  refine (bits_NewPen _).mono ?_
  rintro e w3 ⟨rfl, hp⟩
  obtain ⟨hh, hhh⟩ : ∃ hh, w2.heap.size = hh := ⟨_, rfl⟩
  have HH := Lib.hid (show w2.heap.size ≤ hh by omega)
  rw [hhh] at hp ⊢
  have HP := Lib.hid hp
  -- what lies beneath the pen lies there for good
  have HBW : Hid (∀ (L : List UInt8) (W : World), PenW w2 hh L W → Below w.heap.size w W ∧ CellsAt [(g0, 29, #[.int .i64 ad, .int .i64 kd, .int .i64 qu, .int .i64 mx, .int .i64 my, .int .i64 pa, .slice A n c]), (g1, 24, #[.int .i64 a1, .bool d1, .int .i64 x1, .int .i64 y1])] W) := Lib.hid (fun L W hp => by
    obtain ⟨v, hc⟩ := hp
    exact ⟨B2.out.trans (hc.1.mono B2.out.size), CL2.out.below hc.1⟩)
  clear hp hhh
  have hcl3 := (HBW.out _ _ HP.out).2
  have y0 := hcl3.head.cell 0; have y1' := hcl3.head.cell 1; have y2' := hcl3.head.cell 2; have y3 := hcl3.head.cell 3; have y4 := hcl3.head.cell 4; have y5 := hcl3.head.cell 5; have y6 := hcl3.head.cell 6
  simp at y0 y1' y2' y3 y4 y5 y6
  clear hcl3
  go_wp2_with fail
  refine (HLO.out _ (HA.out.below (HBW.out _ _ HP.out).1)).mono ?_
  rintro e w4 ⟨rfl, hb⟩
  have HP4 := Lib.hid (HP.out.below hb)
  clear hb y0 y1' y2' y3 y4 y5 y6 HP
  cases hl : longP xs with
  | true =>
    go_wp2_with fail
    go_ret
    exact ⟨rfl, (HBW.out _ _ HP4.out).1⟩
  | false =>
  rcases Nat.lt_or_ge 20 nb with hbn | hbn
  · have hb2 : ((20 : Int) < (nb : Int)) := by omega
    go_wp2_with fail
    go_ret
    exact ⟨rfl, (HBW.out _ _ HP4.out).1⟩
  have hb2 : ¬ ((20 : Int) < (nb : Int)) := by omega
  have HBN := Lib.hid hbn
  have HBKW := Lib.hid (HBK.out hl)
  have hcl4 := (HBW.out _ _ HP4.out).2
  have y0 := hcl4.head.cell 0; have y1' := hcl4.head.cell 1; have y2' := hcl4.head.cell 2; have y3 := hcl4.head.cell 3; have y4 := hcl4.head.cell 4; have y5 := hcl4.head.cell 5; have y6 := hcl4.head.cell 6
  have z0 := hcl4.tail.head.cell 0; have z1 := hcl4.tail.head.cell 1; have z2 := hcl4.tail.head.cell 2; have z3 := hcl4.tail.head.cell 3
  simp at y0 y1' y2' y3 y4 y5 y6 z0 z1 z2 z3
  clear hl HBK hbn hcl4
  go_wp2_with fail
  refine (HP1.out _ (HBKW.out _ (HBW.out _ _ HP4.out).1) (HT.out.below (HBW.out _ _ HP4.out).1) (HS.out.below (HBW.out _ _ HP4.out).1)).mono ?_
  rintro e w5 ⟨rfl, hb⟩
  have HP5 := Lib.hid (HP4.out.below hb)
  clear hb y0 y1' y2' y3 y4 y5 y6 z0 z1 z2 z3 HP4
  cases q1 : (e1 != 0) with
  | true =>
    obtain ⟨rfl, rfl⟩ := mput_not HR1.out (by simpa using q1)
    go_wp2_with fail
    go_ret
    exact ⟨by simp, (HBW.out _ _ HP5.out).1⟩
  | false =>
  have he1 : e1 = 0 := by simpa using q1
  subst he1
  obtain ⟨hok, hax, hs1⟩ := mput_ok HR1.out rfl
  have HOK := Lib.hid ((okM_iff _).1 hok); have HAX := Lib.hid hax; have HS1 := Lib.hid hs1
  have HBI : Hid (Bits s1) := Lib.hid (by rw [hs1]; exact bits_mput _ _)
  clear q1 hok hax hs1 HP1 HLO HR1
  have hpk := kit_Pick ah 21 w5 (by decide) (by decide)
  obtain ⟨pk, hpk2⟩ : ∃ pk : Nat, ah % 21 = (pk : Int) := ⟨(ah % 21).toNat, by omega⟩
  have hpk3 : pk ≤ 20 := by omega
  rw [hpk2] at hpk
  have HPK := Lib.hid hpk
  clear hpk hpk2
  go_wp2_with (go_at_call 26; refine HPK.out.mono ?_; rintro e w6 ⟨rfl, rfl⟩)
  have hone : digL 1 1 = [49] := rfl
  have HPS : Hid (PenW w2 hh (List.replicate 0 49) w5) := HP5
  clear HP5
  go_loopg [13] pk (fun gk i => fun wr => ∃ (j : Nat), j + gk = pk ∧ i = .int .i64 (j : Int) ∧ Hid (PenW w2 hh (List.replicate j 49) wr))
  case atStart => exact ⟨0, by omega, rfl, HPS⟩
  case round =>
    obtain ⟨j, hj, rfl, HJ⟩ := hrel
    cases gk with
    | succ g =>
      have hlt : ((j : Int) < (pk : Int)) := by omega
      have hw1 : IntKind.i64.wrap ((j : Int) + 1) = (j : Int) + 1 := by rw [IntKind.wrap_i64]; omega
      have CP := Lib.hid (pen_Put w2 hh (List.replicate j 49) 1 1 (by decide) (by decide) (by rw [List.length_replicate]; omega) HH.out wr HJ.out)
      have HJJ := Lib.hid hj
      rw [hone] at CP
      simp only [Int.cast_ofNat_Int] at CP
      clear hj
      go_wp2_with (go_at_call 30; refine CP.out.mono ?_; rintro e w7 ⟨rfl, hpw⟩; have HPW := Lib.hid hpw; clear hpw)
      go_roundg g
      case measure => omega
      case rel => exact ⟨j + 1, by have := HJJ.out; omega, rfl, Lib.hid (by rw [List.replicate_succ']; exact HPW.out)⟩
    | zero =>
      obtain rfl : j = pk := by omega
      have hlt : ¬ ((j : Int) < (j : Int)) := by omega
      have hcl6 := (HBW.out _ _ HJ.out).2
      have y0 := hcl6.head.cell 0; have y1' := hcl6.head.cell 1; have y2' := hcl6.head.cell 2; have y3 := hcl6.head.cell 3; have y4 := hcl6.head.cell 4; have y5 := hcl6.head.cell 5; have y6 := hcl6.head.cell 6
      simp at y0 y1' y2' y3 y4 y5 y6
      have hck := macro_Check ⟨ad, kd, qu, mx, my, pa, bl⟩ xs A c wr HM.out (HBKW.out _ (HBW.out _ _ HJ.out).1)
      rw [(okM_iff _).2 HOK.out, HXN.out] at hck
      unfold macV at hck
      simp only [if_true] at hck
      have HCK := Lib.hid hck
      have hs1l : 1 ≤ s1.length := by
        obtain ⟨k, hk, e1, _⟩ := kindP_get HOK.out.kd
        have h1 := (code_le kind_code k hk).1
        rw [HS1.out, mputL_parts, List.length_append, e1]
        omega
      have hsl : ¬ ((s1.length : Int) < 1) := by omega
      clear hj hcl6 hck hs1l
      have hs1m : s1.length ≤ 8000 := by rw [HS1.out]; exact mput_lenM _ HOK.out
      obtain ⟨tl, htl⟩ : ∃ tl, (List.replicate j (49 : UInt8) ++ s1).length = tl := ⟨_, rfl⟩
      have htl2 : tl = j + s1.length := by rw [← htl, List.length_append, List.length_replicate]
      have hwl : IntKind.i64.wrap ((tl : Int) - 1) = (tl : Int) - 1 := by rw [IntKind.wrap_i64]; omega
      obtain ⟨q, hq⟩ : ∃ q, (tl - 1) / 8 = q := ⟨_, rfl⟩
      have hqd : ((tl : Int) - 1) / 8 = (q : Int) := by omega
      have hqt : ((tl : Int) - 1).tdiv 8 = (q : Int) := by rw [Int.tdiv_eq_ediv_of_nonneg (by omega)]; exact hqd
      have hwq : IntKind.i64.wrap (q : Int) = (q : Int) := by rw [IntKind.wrap_i64]; omega
      have HTL := Lib.hid htl; have HTL2 := Lib.hid htl2; have HQ := Lib.hid hq; have HS1M := Lib.hid hs1m; have HPK3 := Lib.hid hpk3
      clear htl htl2 hq hs1m hpk3
      go_wp2_with (first | (go_at_call 19; refine HCK.out.mono ?_; rintro e w7 ⟨rfl, hb⟩; have HP7 := Lib.hid (HJ.out.below hb); clear hb y0 y1' y2' y3 y4 y5 y6; have HCO := Lib.hid (pen_Code w2 hh (List.replicate j 49) s1 HBI.out (by rw [List.length_replicate]; have := HS1M.out; have := HPK3.out; omega) HH.out w7 HP7.out)) | (go_at_call 28; refine HCO.out.mono ?_; rintro e w8 ⟨rfl, hp8⟩; have HP8 := Lib.hid hp8; obtain ⟨v8, hc8⟩ := hp8; have hln := pen_Len hh v8 _ w8 hc8.2.1.head; rw [HTL.out] at hln; have HLN := Lib.hid hln; clear hc8 hln) | (go_at_call 31; refine HLN.out.mono ?_; rintro e w9 ⟨rfl, rfl⟩))
      have HPX : Hid (PenW w2 hh ((List.replicate j (49 : UInt8) ++ s1) ++ (beh.take 0).flatMap fun b => digL b.toNat 8) w8) := Lib.hid (by rw [List.take_zero, List.flatMap_nil, List.append_nil]; exact HP8.out)
      clear HP8 HP7 HJ
      go_loopg [15] nb (fun gk i => fun wr => ∃ (k : Nat), k + gk = nb ∧ i = .int .i64 (k : Int) ∧ Hid (PenW w2 hh ((List.replicate j (49 : UInt8) ++ s1) ++ (beh.take k).flatMap fun b => digL b.toNat 8) wr))
      case atStart => exact ⟨0, by omega, rfl, HPX⟩
      case round =>
        obtain ⟨k, hk, rfl, HJ2⟩ := hrel
        cases gk with
        | succ g =>
          have hltk : ((k : Int) < (nb : Int)) := by omega
          have hk0 : ¬ ((k : Int) < 0) := by omega
          have hw1 : IntKind.i64.wrap ((k : Int) + 1) = (k : Int) + 1 := by have := HBN.out; rw [IntKind.wrap_i64]; omega
          have hkb : k < beh.length := by rw [HNB.out]; omega
          obtain ⟨b, hb⟩ : ∃ b, beh[k] = b := ⟨_, rfl⟩
          obtain ⟨ad2, hB2, hlt2, hcell⟩ := (HBE.out.below (HBW.out _ _ HJ2.out).1) k (byteV b) (by rw [List.getElem?_map, List.getElem?_eq_getElem hkb, hb]; rfl)
          subst hB2
          replace hcell : wr.cell? (ad2.add k) = some (.int .u8 (b.toNat : Int)) := hcell
          have hb256 : b.toNat < 256 := UInt8.toNat_lt _
          have hwb : IntKind.i64.wrap (b.toNat : Int) = (b.toNat : Int) := by rw [IntKind.wrap_i64]; omega
          have hfl : ((beh.take k).flatMap fun b => digL b.toNat 8).length = 8 * k := by
            have hgen : ∀ l : List UInt8, (l.flatMap fun b => digL b.toNat 8).length = 8 * l.length := fun l => by
              induction l with
              | nil => rfl
              | cons c l ih => rw [List.flatMap_cons, List.length_append, ih, digL_len, List.length_cons]; omega
            rw [hgen, List.length_take]; omega
          have CP2 := Lib.hid (pen_Put w2 hh _ b.toNat 8 (by omega) (by decide) (by rw [List.length_append, hfl, HTL.out]; have := HTL2.out; have := HS1M.out; have := HPK3.out; have := HBN.out; omega) HH.out wr HJ2.out)
          have HTK : Hid (((List.replicate j (49 : UInt8) ++ s1) ++ (beh.take k).flatMap fun b => digL b.toNat 8) ++ digL b.toNat 8 = (List.replicate j (49 : UInt8) ++ s1) ++ (beh.take (k + 1)).flatMap fun b => digL b.toNat 8) := Lib.hid (by
            rw [List.append_assoc, List.take_add_one, List.getElem?_eq_getElem hkb, hb, List.flatMap_append]
            simp)
          have HKK := Lib.hid hk
          simp only [Int.cast_ofNat_Int] at CP2
          generalize b.toNat = bn at *
          clear hk hkb hb hlt2 hfl hb256
          go_wp2_with (go_at_call 30; refine CP2.out.mono ?_; rintro e w10 ⟨rfl, hpw⟩; have HPW := Lib.hid hpw; clear hpw)
          go_roundg g
          case measure => omega
          case rel => exact ⟨k + 1, by have := HKK.out; omega, rfl, Lib.hid (by rw [← HTK.out]; exact HPW.out)⟩
        | zero =>
          obtain rfl : k = nb := by omega
          have hltk : ¬ ((k : Int) < (k : Int)) := by omega
          obtain ⟨Y, hY⟩ : ∃ Y, ((beh.take k).flatMap fun b => digL b.toNat 8) = Y := ⟨_, rfl⟩
          have hYl : Y.length ≤ 160 := by
            have hgen : ∀ l : List UInt8, (l.flatMap fun b => digL b.toNat 8).length = 8 * l.length := fun l => by
              induction l with
              | nil => rfl
              | cons c l ih => rw [List.flatMap_cons, List.length_append, ih, digL_len, List.length_cons]; omega
            rw [← hY, hgen, List.length_take]
            have := HBN.out
            omega
          have HJ3 : Hid (PenW w2 hh ((List.replicate j (49 : UInt8) ++ s1) ++ Y) wr) := Lib.hid (by rw [← hY]; exact HJ2.out)
          have hL2 : ((List.replicate j (49 : UInt8) ++ s1) ++ Y).length ≤ 16777216 := by rw [List.length_append, HTL.out]; have := HTL2.out; have := HS1M.out; have := HPK3.out; omega
          have HBY := Lib.hid (pen_Bytes w2 hh _ hL2 wr HJ3.out)
          have hat := at_pack (X := List.replicate j (49 : UInt8)) (s := s1) (Y := Y) HBI.out
          rw [List.length_replicate] at hat
          have hat2 := hat
          rw [HS1.out] at hat2
          have HAT := Lib.hid hat
          have hget := mget_at HOK.out HAX.out hat2
          rw [← HS1.out] at hget
          have HGET := Lib.hid hget
          have hnp : (packL ((List.replicate j (49 : UInt8) ++ s1) ++ Y)).length ≤ 2 ^ 30 := by rw [packL_length]; omega
          have hqn : q ≤ (packL ((List.replicate j (49 : UInt8) ++ s1) ++ Y)).length := by rw [packL_length, List.length_append, HTL.out]; have := HQ.out; omega
          have HNP := Lib.hid hnp; have HQN := Lib.hid hqn
          clear hqn hk hY hYl HJ2 hL2 hat hat2 hget hnp
          generalize packL ((List.replicate j (49 : UInt8) ++ s1) ++ Y) = PL at *
          obtain ⟨np, hnp⟩ : ∃ np, PL.length = np := ⟨_, rfl⟩
          rw [hnp] at HBY HNP
          have HNPL := Lib.hid hnp
          clear hnp
          have HPR : Hid (∀ W : World, Below wr.heap.size wr W → Below w.heap.size w W ∧ CellsAt [(g0, 29, #[.int .i64 ad, .int .i64 kd, .int .i64 qu, .int .i64 mx, .int .i64 my, .int .i64 pa, .slice A n c]), (g1, 24, #[.int .i64 a1, .bool d1, .int .i64 x1, .int .i64 y1])] W) := Lib.hid (fun W hb => HBW.out _ _ (HJ3.out.below hb))
          go_wp2_with (go_at_call 29; refine HBY.out.mono ?_; rintro e w11 ⟨⟨A', c', rfl, hcp, hsl⟩, hb⟩; have HCP := Lib.hid hcp; clear hcp; have HB11 := Lib.hid hb; have HSL := Lib.hid hsl; have hcl := (HPR.out _ hb).2; have y0 := hcl.head.cell 0; have y1' := hcl.head.cell 1; have y2' := hcl.head.cell 2; have y3 := hcl.head.cell 3; have y4 := hcl.head.cell 4; have y5 := hcl.head.cell 5; have y6 := hcl.head.cell 6; have z0 := hcl.tail.head.cell 0; have z1 := hcl.tail.head.cell 1; have z2 := hcl.tail.head.cell 2; have z3 := hcl.tail.head.cell 3; simp at y0 y1' y2' y3 y4 y5 y6 z0 z1 z2 z3; clear hb hsl hcl)
          have hg1 := law19_gets A' np c' PL (j : Int) ad ⟨a1, d1, x1, y1⟩ ⟨ad, kd, qu, mx, my, pa, bl⟩ xs A c (s1.length : Int) 0 w11 HSL.out HNPL.out (by have := HNP.out; omega) (HS.out.below (HPR.out _ HB11.out).1) (by have := HPK3.out; omega) HGET.out HM.out (HBKW.out _ (HPR.out _ HB11.out).1)
          rw [HXN.out] at hg1
          unfold macV lastV at hg1
          refine hg1.mono ?_
          rintro e w12 ⟨rfl, hb⟩
          have HB12 := Lib.hid (HB11.out.trans (hb.mono HB11.out.size))
          have HSL2 := Lib.hid (HSL.out.below hb)
          clear hb hg1 y0 y1' y2' y3 y4 y5 y6 z0 z1 z2 z3
          have hw8 : IntKind.i64.wrap ((q : Int) * 8) = (q : Int) * 8 := by have h1 := HQ.out; have h2 := HTL2.out; have h3 := HS1M.out; have h4 := HPK3.out; rw [IntKind.wrap_i64]; omega
          go_wp2_with fail
          have HCD : Hid (CellsAt [(g0, 29, #[.int .i64 ad, .int .i64 kd, .int .i64 qu, .int .i64 mx, .int .i64 my, .int .i64 pa, .slice A n c]), (g1, 24, #[.int .i64 a1, .bool d1, .int .i64 x1, .int .i64 y1])] w12.drew) := Lib.hid ((HPR.out _ HB12.out).2.drew)
          rcases Nat.lt_or_ge (8 * q) j with h8 | h8
          · have hlt8 : ((q : Int) * 8 < (j : Int)) := by omega
            refine (wpIn_wide (n := 5)).1 ?_
            refine wpIn_region_treeI (fun w' => CellsAt [(g0, 29, #[.int .i64 ad, .int .i64 kd, .int .i64 qu, .int .i64 mx, .int .i64 my, .int .i64 pa, .slice A n c]), (g1, 24, #[.int .i64 a1, .bool d1, .int .i64 x1, .int .i64 y1])] w') 18 (.take 0 (.take 1 (.take 2 (.take 3 (.take 4 (.take 5 (.take 6 (.take 7 (.take 8 (.take 9 (.take 10 (.take 11 (.take 12 (.take 13 (.take 14 (.take 15 (.take 16 (.take 17 (.done))))))))))))))))))) rfl (by kernel_rfl) (by kernel_rfl) (fun _ _ d _ _ h => by cases d <;> exact h) (by simp only [Pln.out, Array.getD_eq_getD_getElem?, List.getElem?_toArray, List.getElem?_cons_zero, List.getElem?_cons_succ, Option.getD_some]; rfl) (by simp only [List.map_cons, List.map_nil]; rfl) (HCD.out) (fun PE hPE => ?_)
            refine treeI_take (v := ?_) rfl (by rfl) ?_ (fun _ => rfl) ?_
            rotate_left
            · intro _ hSw; (try dsimp only at hSw); go_simp; (try with_reducible rfl)
            simp only [List.setIfInBounds_toArray, List.set_cons_zero, List.set_cons_succ]
            refine treeI_take (v := ?_) rfl (by rfl) ?_ (fun _ => rfl) ?_
            rotate_left
            · intro _ hSw; (try dsimp only at hSw); go_simp; (try with_reducible rfl)
            simp only [List.setIfInBounds_toArray, List.set_cons_zero, List.set_cons_succ]
            refine treeI_take (v := ?_) rfl (by rfl) ?_ (fun _ => rfl) ?_
            rotate_left
            · intro _ hSw; (try dsimp only at hSw); go_simp; (try with_reducible rfl)
            simp only [List.setIfInBounds_toArray, List.set_cons_zero, List.set_cons_succ]
            refine treeI_take (v := ?_) rfl (by rfl) ?_ (fun _ => rfl) ?_
            rotate_left
            · intro _ hSw; (try dsimp only at hSw); go_simp; (try with_reducible rfl)
            simp only [List.setIfInBounds_toArray, List.set_cons_zero, List.set_cons_succ]
            refine treeI_take (v := ?_) rfl (by rfl) ?_ (fun _ => rfl) ?_
            rotate_left
            · intro _ hSw; (try dsimp only at hSw); go_simp; (try with_reducible rfl)
            simp only [List.setIfInBounds_toArray, List.set_cons_zero, List.set_cons_succ]
            refine treeI_take (v := ?_) rfl (by rfl) ?_ (fun _ => rfl) ?_
            rotate_left
            · intro _ hSw; (try dsimp only at hSw); go_simp; (try with_reducible rfl)
            simp only [List.setIfInBounds_toArray, List.set_cons_zero, List.set_cons_succ]
            refine treeI_take (v := ?_) rfl (by rfl) ?_ (fun _ => rfl) ?_
            rotate_left
            · intro _ hSw; (try dsimp only at hSw); go_simp; (try with_reducible rfl)
            simp only [List.setIfInBounds_toArray, List.set_cons_zero, List.set_cons_succ]
            refine treeI_pass rfl (by rfl) (fun _ => rfl) ?_
            simp only [List.setIfInBounds_toArray, List.set_cons_zero, List.set_cons_succ]
            refine treeI_pass rfl (by rfl) (fun _ => rfl) ?_
            simp only [List.setIfInBounds_toArray, List.set_cons_zero, List.set_cons_succ]
            refine treeI_pass rfl (by rfl) (fun _ => rfl) ?_
            simp only [List.setIfInBounds_toArray, List.set_cons_zero, List.set_cons_succ]
            refine treeI_pass rfl (by rfl) (fun _ => rfl) ?_
            simp only [List.setIfInBounds_toArray, List.set_cons_zero, List.set_cons_succ]
            refine treeI_pass rfl (by rfl) (fun _ => rfl) ?_
            simp only [List.setIfInBounds_toArray, List.set_cons_zero, List.set_cons_succ]
            refine treeI_pass rfl (by rfl) (fun _ => rfl) ?_
            simp only [List.setIfInBounds_toArray, List.set_cons_zero, List.set_cons_succ]
            refine treeI_pass rfl (by rfl) (fun _ => rfl) ?_
            simp only [List.setIfInBounds_toArray, List.set_cons_zero, List.set_cons_succ]
            refine treeI_pass rfl (by rfl) (fun _ => rfl) ?_
            simp only [List.setIfInBounds_toArray, List.set_cons_zero, List.set_cons_succ]
            refine treeI_pass rfl (by rfl) (fun _ => rfl) ?_
            simp only [List.setIfInBounds_toArray, List.set_cons_zero, List.set_cons_succ]
            refine treeI_pass rfl (by rfl) (fun _ => rfl) ?_
            simp only [List.setIfInBounds_toArray, List.set_cons_zero, List.set_cons_succ]
            refine treeI_pass rfl (by rfl) (fun _ => rfl) ?_
            simp only [List.setIfInBounds_toArray, List.set_cons_zero, List.set_cons_succ]
            refine hPE _ _ ?_
            clear hPE PE
            simp only [List.drop_succ_cons, List.drop_zero, List.drop_nil]
            gi_wp2_with (refine wpListIn_skip (by rfl) (by rfl) ?_)
            refine ⟨trivial, ?_⟩
            gi_wp2_with (refine wpListIn_skip (by rfl) (by rfl) ?_)
            go_wp2_with fail
            go_ret
            exact ⟨by simp, (HPR.out _ HB12.out).1.drew⟩
          · have hlt8 : ¬ ((q : Int) * 8 < (j : Int)) := by omega
            have hqnp : q ≤ np := by have := HQN.out; have := HNPL.out; omega
            have hmin : min (q : Int) (np : Int) = (q : Int) := by omega
            have hqc : ((q : Int) ≤ (c' : Int)) := by have := HCP.out; omega
            have hq0 : ¬ ((q : Int) < 0) := by omega
            have hq0' : (0 : Int) ≤ (q : Int) := by omega
            have hqn2 : (q : Int).toNat = q := by omega
            have hcut := cut_take HAT.out q (by have := HNPL.out; omega) h8 (by have := HQ.out; have := HTL2.out; omega)
            rw [HS1.out] at hcut
            have hgc := mget_cut HOK.out HAX.out hcut
            have hsl3 : Sl w12.drew A' ((PL.take q).map byteV) := fun i v hv => by
              refine HSL2.out i v ?_
              rw [List.getElem?_map, List.getElem?_take] at hv
              rw [List.getElem?_map]
              split at hv
              · exact hv
              · cases hv
            have hg2 := law19_gets A' q c' (PL.take q) (j : Int) ad ⟨a1, d1, x1, y1⟩ m0 [] none 0 0 5 w12.drew hsl3 (by rw [List.length_take]; have := HNPL.out; omega) (by have := HNP.out; omega) (HS.out.below (HPR.out _ HB12.out).1.drew) (by have := HPK3.out; omega) hgc rfl (bks_nil _ _)
            unfold macV lastV m0 at hg2
            have HG2 := Lib.hid hg2
            clear hcut hgc hsl3 hg2 hqnp h8
            refine (wpIn_wide (n := 5)).1 ?_
            refine wpIn_region_treeI (fun w' => CellsAt [(g0, 29, #[.int .i64 ad, .int .i64 kd, .int .i64 qu, .int .i64 mx, .int .i64 my, .int .i64 pa, .slice A n c]), (g1, 24, #[.int .i64 a1, .bool d1, .int .i64 x1, .int .i64 y1])] w') 18 (.take 0 (.take 1 (.take 2 (.take 3 (.take 4 (.take 5 (.take 6 (.take 7 (.take 8 (.take 9 (.take 10 (.take 11 (.take 12 (.take 13 (.take 14 (.take 15 (.take 16 (.take 17 (.done))))))))))))))))))) rfl (by kernel_rfl) (by kernel_rfl) (fun _ _ d _ _ h => by cases d <;> exact h) (by simp only [Pln.out, Array.getD_eq_getD_getElem?, List.getElem?_toArray, List.getElem?_cons_zero, List.getElem?_cons_succ, Option.getD_some]; rfl) (by simp only [List.map_cons, List.map_nil]; rfl) (HCD.out) (fun PE hPE => ?_)
            refine treeI_take (v := ?_) rfl (by rfl) ?_ (fun _ => rfl) ?_
            rotate_left
            · intro _ hSw; (try dsimp only at hSw); go_simp; (try with_reducible rfl)
            simp only [List.setIfInBounds_toArray, List.set_cons_zero, List.set_cons_succ]
            refine treeI_take (v := ?_) rfl (by rfl) ?_ (fun _ => rfl) ?_
            rotate_left
            · intro _ hSw; (try dsimp only at hSw); go_simp; (try with_reducible rfl)
            simp only [List.setIfInBounds_toArray, List.set_cons_zero, List.set_cons_succ]
            refine treeI_take (v := ?_) rfl (by rfl) ?_ (fun _ => rfl) ?_
            rotate_left
            · intro _ hSw; (try dsimp only at hSw); go_simp; (try with_reducible rfl)
            simp only [List.setIfInBounds_toArray, List.set_cons_zero, List.set_cons_succ]
            refine treeI_take (v := ?_) rfl (by rfl) ?_ (fun _ => rfl) ?_
            rotate_left
            · intro _ hSw; (try dsimp only at hSw); go_simp; (try with_reducible rfl)
            simp only [List.setIfInBounds_toArray, List.set_cons_zero, List.set_cons_succ]
            refine treeI_take (v := ?_) rfl (by rfl) ?_ (fun _ => rfl) ?_
            rotate_left
            · intro _ hSw; (try dsimp only at hSw); go_simp; (try with_reducible rfl)
            simp only [List.setIfInBounds_toArray, List.set_cons_zero, List.set_cons_succ]
            refine treeI_take (v := ?_) rfl (by rfl) ?_ (fun _ => rfl) ?_
            rotate_left
            · intro _ hSw; (try dsimp only at hSw); go_simp; (try with_reducible rfl)
            simp only [List.setIfInBounds_toArray, List.set_cons_zero, List.set_cons_succ]
            refine treeI_take (v := ?_) rfl (by rfl) ?_ (fun _ => rfl) ?_
            rotate_left
            · intro _ hSw; (try dsimp only at hSw); go_simp; (try with_reducible rfl)
            simp only [List.setIfInBounds_toArray, List.set_cons_zero, List.set_cons_succ]
            refine treeI_take (v := ?_) rfl (by rfl) ?_ (fun _ => rfl) ?_
            rotate_left
            · intro _ hSw; (try dsimp only at hSw); go_simp; (try with_reducible rfl)
            simp only [List.setIfInBounds_toArray, List.set_cons_zero, List.set_cons_succ]
            refine treeI_take (v := ?_) rfl (by rfl) ?_ (fun _ => rfl) ?_
            rotate_left
            · intro _ hSw; (try dsimp only at hSw); go_simp; (try with_reducible rfl)
            simp only [List.setIfInBounds_toArray, List.set_cons_zero, List.set_cons_succ]
            refine treeI_take (v := ?_) rfl (by rfl) ?_ (fun _ => rfl) ?_
            rotate_left
            · intro _ hSw; (try dsimp only at hSw); go_simp; (try with_reducible rfl)
            simp only [List.setIfInBounds_toArray, List.set_cons_zero, List.set_cons_succ]
            refine treeI_take (v := ?_) rfl (by rfl) ?_ (fun _ => rfl) ?_
            rotate_left
            · intro _ hSw; (try dsimp only at hSw); go_simp; (try with_reducible rfl)
            simp only [List.setIfInBounds_toArray, List.set_cons_zero, List.set_cons_succ]
            refine treeI_take (v := ?_) rfl (by rfl) ?_ (fun _ => rfl) ?_
            rotate_left
            · intro _ hSw; (try dsimp only at hSw); go_simp; (try with_reducible rfl)
            simp only [List.setIfInBounds_toArray, List.set_cons_zero, List.set_cons_succ]
            refine treeI_take (v := ?_) rfl (by rfl) ?_ (fun _ => rfl) ?_
            rotate_left
            · intro _ hSw; (try dsimp only at hSw); go_simp; (try with_reducible rfl)
            simp only [List.setIfInBounds_toArray, List.set_cons_zero, List.set_cons_succ]
            refine treeI_take (v := ?_) rfl (by rfl) ?_ (fun _ => rfl) ?_
            rotate_left
            · intro _ hSw; (try dsimp only at hSw); go_simp; (try with_reducible rfl)
            simp only [List.setIfInBounds_toArray, List.set_cons_zero, List.set_cons_succ]
            refine treeI_take (v := ?_) rfl (by rfl) ?_ (fun _ => rfl) ?_
            rotate_left
            · intro _ hSw; (try dsimp only at hSw); have u0 := hSw.head.cell 0; have v0 := hSw.tail.head.cell 0; have v1 := hSw.tail.head.cell 1; have v2 := hSw.tail.head.cell 2; have v3 := hSw.tail.head.cell 3; (try dsimp only at u0 v0 v1 v2 v3); go_simp; (try with_reducible rfl)
            simp only [List.setIfInBounds_toArray, List.set_cons_zero, List.set_cons_succ]
            refine treeI_take (v := ?_) rfl (by rfl) ?_ (fun _ => rfl) ?_
            rotate_left
            · intro _ hSw; (try dsimp only at hSw); have u0 := hSw.head.cell 0; have v0 := hSw.tail.head.cell 0; have v1 := hSw.tail.head.cell 1; have v2 := hSw.tail.head.cell 2; have v3 := hSw.tail.head.cell 3; (try dsimp only at u0 v0 v1 v2 v3); go_simp; (try with_reducible rfl)
            simp only [List.setIfInBounds_toArray, List.set_cons_zero, List.set_cons_succ]
            refine treeI_take (v := ?_) rfl (by rfl) ?_ (fun _ => rfl) ?_
            rotate_left
            · intro _ hSw; (try dsimp only at hSw); have u0 := hSw.head.cell 0; have v0 := hSw.tail.head.cell 0; have v1 := hSw.tail.head.cell 1; have v2 := hSw.tail.head.cell 2; have v3 := hSw.tail.head.cell 3; (try dsimp only at u0 v0 v1 v2 v3); go_simp; (try with_reducible rfl)
            simp only [List.setIfInBounds_toArray, List.set_cons_zero, List.set_cons_succ]
            refine treeI_take (v := ?_) rfl (by rfl) ?_ (fun _ => rfl) ?_
            rotate_left
            · intro _ hSw; (try dsimp only at hSw); have u0 := hSw.head.cell 0; have v0 := hSw.tail.head.cell 0; have v1 := hSw.tail.head.cell 1; have v2 := hSw.tail.head.cell 2; have v3 := hSw.tail.head.cell 3; (try dsimp only at u0 v0 v1 v2 v3); go_simp; (try with_reducible rfl)
            simp only [List.setIfInBounds_toArray, List.set_cons_zero, List.set_cons_succ]
            refine hPE _ _ ?_
            clear hPE PE
            simp only [List.drop_succ_cons, List.drop_zero, List.drop_nil]
            gi_wp2_with (refine ⟨trivial, ?_⟩; gi_at_call 24; refine (callsIn_wide.2 HG2.out).mono ?_; rintro e w13 ⟨rfl, hb⟩; have HB13 := Lib.hid hb; clear hb)
            go_wp2_with fail
            go_ret
            exact ⟨by simp, (HPR.out _ HB12.out).1.drew.trans (HB13.out.mono (HPR.out _ HB12.out).1.size)⟩
end Go.Proofs.YtcojnigkgbmbmaaGreatDoor
