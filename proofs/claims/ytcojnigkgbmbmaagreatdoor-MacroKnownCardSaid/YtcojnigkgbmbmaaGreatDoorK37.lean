/- MChk, Fmt2 -/
import Derived.Test.YtcojnigkgbmbmaaGreatDoorK28
import Derived.Deep.DeepCutAuto
import Derived.Test.YtcojnigkgbmbmaaGreatDoorK01
namespace Go.Proofs.YtcojnigkgbmbmaaGreatDoor
open Go Go.RowKit
attribute [local go_sem] Oper.semAt_some
def qokP (kd qu : Int) : Bool := if pQ kd then decide (1 ≤ qu) && decide (qu ≤ 31) else qu == 0
theorem okM_eq (m : MacM) (h : inK m.kd = true) : okM m = !((decide (m.ad < 1) || decide (33 < m.ad) || !partB m.x || !partB m.y || (!pV m.kd && (m.x != 0 || m.y != 0))) || (!qokP m.kd m.qu || decide (m.pa < 0) || decide ((if pI m.kd || pC m.kd then (63 : Int) else 0) < m.pa) || (pI m.kd && m.pa != 63) || (pC m.kd && m.pa == 0) || ((m.bl.length : Int) != ((cntP m.pa : Nat) : Int))) || m.bl.any fun x => bchkP x (pI m.kd) != 0) := by
  obtain ⟨ad, kd, qu, x, y, pa, bl⟩ := m
  unfold okM qokP
  dsimp only at h ⊢
  rw [h]
  have ha : (bl.all fun x => bchkP x (pI kd) == 0) = !(bl.any fun x => bchkP x (pI kd) != 0) := by
    induction bl with
    | nil => rfl
    | cons b bl ih => simp only [List.all_cons, List.any_cons, ih, bne, Bool.not_or, Bool.not_not]
  have hl : ((bl.length : Int) != ((cntP pa : Nat) : Int)) = !(bl.length == cntP pa) := by
    rw [bne, Bool.eq_iff_iff]
    simp
    omega
  rw [ha, hl]
  generalize (bl.any fun x => bchkP x (pI kd) != 0) = z
  generalize (bl.length == cntP pa) = zl
  generalize partB x = px
  generalize partB y = py
  generalize pI kd = bI
  generalize pQ kd = bQ
  generalize pV kd = bV
  generalize pC kd = bC
  rw [Bool.eq_iff_iff]
  cases bI <;> cases bQ <;> cases bV <;> cases bC <;> cases px <;> cases py <;> cases zl <;> cases z <;> simp <;> omega
set_option maxRecDepth 100000 in
set_option maxHeartbeats 8000000 in
theorem macro_Check (m : MacM) (xs : List BkE) (A : Option Addr) (c : Nat) (w : World) (hm : m.bl = xs.map (·.1)) (hA : BksAt w A xs) : Calls Tryz.prog 19 #[macV m A xs.length c] w fun e w' => e = .returned (.int .i64 (if okM m then 0 else 2)) ∧ Below w.heap.size w w' := by
  have hany : (m.bl.any fun x => bchkP x (pI m.kd) != 0) = xs.any (badB (pI m.kd)) := by rw [hm, List.any_map]; rfl
  have hlen : m.bl.length = xs.length := by rw [hm, List.length_map]
  have hok := okM_eq m
  rw [hany, hlen] at hok
  have hx64 := hA.len
  have HA := Lib.hid hA
  obtain ⟨ad, kd, qu, x, y, pa, bl⟩ := m
  clear hm hA hany hlen
  obtain ⟨OK, hOK⟩ : ∃ b, okM ⟨ad, kd, qu, x, y, pa, bl⟩ = b := ⟨_, rfl⟩
  rw [hOK] at hok ⊢
  unfold macV
  dsimp only at hok ⊢
  have CO := Lib.hid (fun W => kind_Of kd W)
  have hB0 : Below w.heap.size w (w.alloc (.cells #[.int .i64 ad, .int .i64 kd, .int .i64 qu, .int .i64 x, .int .i64 y, .int .i64 pa, .slice A xs.length c] 29)) := (Below.refl _ _).alloc (Nat.le_refl _) _
  have hM0 : Blk (w.alloc (.cells #[.int .i64 ad, .int .i64 kd, .int .i64 qu, .int .i64 x, .int .i64 y, .int .i64 pa, .slice A xs.length c] 29)) w.heap.size 29 #[.int .i64 ad, .int .i64 kd, .int .i64 qu, .int .i64 x, .int .i64 y, .int .i64 pa, .slice A xs.length c] := Blk.new _ _ _
  have HB0 := Lib.hid hB0; have HM0 := Lib.hid hM0
  clear hB0 hM0
  cases hk : inK kd with
  | false =>
    have hof : OK = false := by rw [← hOK]; unfold okM; dsimp only; rw [hk]; rfl
    subst hof
    unfold ofV ofE at CO
    rw [hk, if_neg (by decide), if_neg (by decide)] at CO
    unfold prt0 at CO
    clear hok hk hOK
    go_enter Tryz.func19, Tryz.ntmps19
    go_wp2_with (go_at_call 47; refine (CO.out _).mono ?_; rintro e w2 ⟨rfl, hb2⟩; have HB2 := Lib.hid hb2; clear hb2)
    go_ret
    exact ⟨rfl, (HB0.out.trans (HB2.out.mono HB0.out.size)).alloc (Nat.le_trans HB0.out.size HB2.out.size) _⟩
  | true =>
    have hok := hok hk
    unfold ofV ofE at CO
    rw [hk, if_pos rfl, if_pos rfl] at CO
    unfold partC at CO
    unfold qokP at hok
    clear hk hOK
    have CON := Lib.hid (fun W g hW hg => contains_block A c xs g (pI kd) (pQ kd) (pV kd) (pF kd) (pC kd) W hW hg)
    generalize pI kd = bI at *
    generalize pQ kd = bQ at *
    generalize pV kd = bV at *
    generalize pF kd = bF at *
    generalize pC kd = bC at *
    have PX := Lib.hid (fun W => macro_part x W); have PY := Lib.hid (fun W => macro_part y W)
    have PC := Lib.hid (fun W => pattern_Count pa W)
    have hcn : (cntP pa : Int) ≤ 6 := by unfold cntP; split <;> omega
    generalize partB x = px at *
    generalize partB y = py at *
    obtain ⟨cnt, hcnt⟩ : ∃ k : Int, ((cntP pa : Nat) : Int) = k := ⟨_, rfl⟩
    rw [hcnt] at hok PC hcn
    clear hcnt
    generalize xs.any (badB bI) = ANY at *
    obtain ⟨n, hn⟩ : ∃ n, xs.length = n := ⟨_, rfl⟩
    rw [hn] at hok hx64 HB0 HM0 CON ⊢
    clear hn
    have HOK := Lib.hid hok
    clear hok
    go_enter Tryz.func19, Tryz.ntmps19
    go_upto_region 2 with (go_at_call 47; refine (CO.out _).mono ?_; rintro e w2 ⟨rfl, hb2⟩; have HB2 := Lib.hid hb2; clear hb2)
    obtain ⟨g, hg⟩ : ∃ g, w2.heap.size = g := ⟨_, rfl⟩
    have hP : Blk (w2.alloc (.cells #[.bool bI, .bool bQ, .bool bV, .bool bF, .bool bC] 59)) g 59 #[.bool bI, .bool bQ, .bool bV, .bool bF, .bool bC] := blkAt (Blk.new _ _ _) hg
    have hM := (HM0.out.below HB2.out HM0.out.lt).alloc (.cells #[.bool bI, .bool bQ, .bool bV, .bool bF, .bool bC] 59)
    have hB := (HB0.out.trans (HB2.out.mono HB0.out.size)).alloc (Nat.le_trans HB0.out.size HB2.out.size) (.cells #[.bool bI, .bool bQ, .bool bV, .bool bF, .bool bC] 59)
    simp only [hg]
    generalize w2.alloc (.cells #[.bool bI, .bool bQ, .bool bV, .bool bF, .bool bC] 59) = W1 at hP hM hB ⊢
    have HP := Lib.hid hP; have HM := Lib.hid hM; have HB := Lib.hid hB
    clear hP hM hB hg HB2 HM0 HB0
    obtain ⟨b1, hb1⟩ : ∃ b, (decide (ad < 1) || decide (33 < ad) || !px || !py || (!bV && (x != 0 || y != 0))) = b := ⟨_, rfl⟩
    rw [hb1] at HOK
    go_cut [52] (fun s52 wx => W1 = wx ∧ s52 = .bool b1)
    case first =>
      have m0 := HM.out.cell 0; have m1 := HM.out.cell 1; have m2 := HM.out.cell 2; have m3 := HM.out.cell 3; have m4 := HM.out.cell 4; have m5 := HM.out.cell 5; have m6 := HM.out.cell 6; have p0 := HP.out.cell 0; have p1 := HP.out.cell 1; have p2 := HP.out.cell 2; have p4 := HP.out.cell 4
      have HXB := Lib.hid hb1
      clear hb1
      cases d1 : decide (ad < 1) with
      | true =>
        go_wp2_with (first | (go_at_call 59; refine (PX.out _).mono ?_; rintro e w' ⟨rfl, rfl⟩) | (go_at_call 59; refine (PY.out _).mono ?_; rintro e w' ⟨rfl, rfl⟩))
        go_meet
        case rel => exact ⟨rfl, by rw [← HXB.out, d1]; rfl⟩
      | false =>
        cases d2 : decide (33 < ad) with
        | true =>
          go_wp2_with (first | (go_at_call 59; refine (PX.out _).mono ?_; rintro e w' ⟨rfl, rfl⟩) | (go_at_call 59; refine (PY.out _).mono ?_; rintro e w' ⟨rfl, rfl⟩))
          go_meet
          case rel => exact ⟨rfl, by rw [← HXB.out, d1, d2]; rfl⟩
        | false =>
          cases px with
          | false =>
            go_wp2_with (first | (go_at_call 59; refine (PX.out _).mono ?_; rintro e w' ⟨rfl, rfl⟩) | (go_at_call 59; refine (PY.out _).mono ?_; rintro e w' ⟨rfl, rfl⟩))
            go_meet
            case rel => exact ⟨rfl, by rw [← HXB.out, d1, d2]; rfl⟩
          | true =>
            cases py with
            | false =>
              go_wp2_with (first | (go_at_call 59; refine (PX.out _).mono ?_; rintro e w' ⟨rfl, rfl⟩) | (go_at_call 59; refine (PY.out _).mono ?_; rintro e w' ⟨rfl, rfl⟩))
              go_meet
              case rel => exact ⟨rfl, by rw [← HXB.out, d1, d2]; rfl⟩
            | true =>
              cases bV with
              | true =>
                go_wp2_with (first | (go_at_call 59; refine (PX.out _).mono ?_; rintro e w' ⟨rfl, rfl⟩) | (go_at_call 59; refine (PY.out _).mono ?_; rintro e w' ⟨rfl, rfl⟩))
                go_meet
                case rel => exact ⟨rfl, by rw [← HXB.out, d1, d2]; rfl⟩
              | false =>
                cases d6 : (x != 0) with
                | true =>
                  go_wp2_with (first | (go_at_call 59; refine (PX.out _).mono ?_; rintro e w' ⟨rfl, rfl⟩) | (go_at_call 59; refine (PY.out _).mono ?_; rintro e w' ⟨rfl, rfl⟩))
                  go_meet
                  case rel => exact ⟨rfl, by rw [← HXB.out, d1, d2, d6]; rfl⟩
                | false =>
                  cases d7 : (y != 0) with
                  | true =>
                    go_wp2_with (first | (go_at_call 59; refine (PX.out _).mono ?_; rintro e w' ⟨rfl, rfl⟩) | (go_at_call 59; refine (PY.out _).mono ?_; rintro e w' ⟨rfl, rfl⟩))
                    go_meet
                    case rel => exact ⟨rfl, by rw [← HXB.out, d1, d2, d6, d7]; rfl⟩
                  | false =>
                    go_wp2_with (first | (go_at_call 59; refine (PX.out _).mono ?_; rintro e w' ⟨rfl, rfl⟩) | (go_at_call 59; refine (PY.out _).mono ?_; rintro e w' ⟨rfl, rfl⟩))
                    go_meet
                    case rel => exact ⟨rfl, by rw [← HXB.out, d1, d2, d6, d7]; rfl⟩
    obtain ⟨rfl, rfl⟩ := hcut
    clear hb1
    cases b1 with
    | true =>
      have hOf : OK = false := by rw [HOK.out]; rfl
      subst hOf
      go_wp2_with fail
      go_ret
      exact ⟨rfl, HB.out⟩
    | false =>
    rw [Bool.false_or] at HOK
    have m0 := HM.out.cell 0; have m1 := HM.out.cell 1; have m2 := HM.out.cell 2; have m3 := HM.out.cell 3; have m4 := HM.out.cell 4; have m5 := HM.out.cell 5; have m6 := HM.out.cell 6; have p0 := HP.out.cell 0; have p1 := HP.out.cell 1; have p2 := HP.out.cell 2; have p4 := HP.out.cell 4
    obtain ⟨qok, hqok⟩ : ∃ b, (if bQ then decide (1 ≤ qu) && decide (qu ≤ 31) else qu == 0) = b := ⟨_, rfl⟩
    rw [hqok] at HOK
    go_upto_if 57 with fail
    go_cut [5] (fun s5 wx => W1 = wx ∧ s5 = .bool qok)
    case first =>
      have HXB := Lib.hid hqok
      clear hqok
      cases bQ with
      | false =>
        go_wp2_with fail
        go_meet
        case rel => exact ⟨rfl, by rw [← HXB.out]; rfl⟩
      | true =>
        cases d1 : decide (1 ≤ qu) with
        | false =>
          go_wp2_with fail
          go_meet
          case rel => exact ⟨rfl, by rw [← HXB.out, d1]; rfl⟩
        | true =>
          cases d2 : decide (qu ≤ 31) with
          | false =>
            go_wp2_with fail
            go_meet
            case rel => exact ⟨rfl, by rw [← HXB.out, d1, d2]; rfl⟩
          | true =>
            go_wp2_with fail
            go_meet
            case rel => exact ⟨rfl, by rw [← HXB.out, d1, d2]; rfl⟩
    obtain ⟨rfl, rfl⟩ := hcut
    clear hqok
    go_upto_region 7 with fail
    go_cut [71] (fun s71 wx => W1 = wx ∧ s71 = .bool (bI || bC))
    case first =>
      cases bI with
      | true =>
        go_wp2_with fail
        go_meet
        case rel => exact ⟨rfl, rfl⟩
      | false =>
        go_wp2_with fail
        go_meet
        case rel => exact ⟨rfl, rfl⟩
    obtain ⟨rfl, rfl⟩ := hcut
    obtain ⟨most, hmost⟩ : ∃ b, (if bI || bC then (63 : Int) else 0) = b := ⟨_, rfl⟩
    rw [hmost] at HOK
    go_upto_if 71 with fail
    go_cut [6] (fun s6 wx => W1 = wx ∧ s6 = .int .i64 most)
    case first =>
      have HXB := Lib.hid hmost
      clear hmost
      cases hbc : (bI || bC) with
      | true =>
        go_wp2_with fail
        go_meet
        case rel => exact ⟨rfl, by rw [← HXB.out, hbc]; rfl⟩
      | false =>
        go_wp2_with fail
        go_meet
        case rel => exact ⟨rfl, by rw [← HXB.out, hbc]; rfl⟩
    obtain ⟨rfl, rfl⟩ := hcut
    clear hmost
    go_upto_region 10 with (go_at_call 60; refine (PC.out _).mono ?_; rintro e w3 ⟨rfl, hb3⟩; have HB3 := Lib.hid hb3; clear hb3)
    clear m0 m1 m2 m3 m4 m5 m6 p0 p1 p2 p4
    have HM := Lib.hid (HM.out.below HB3.out HM.out.lt); have HP := Lib.hid (HP.out.below HB3.out HP.out.lt); have HB := Lib.hid (HB.out.trans (HB3.out.mono HB.out.size))
    have m0 := HM.out.cell 0; have m1 := HM.out.cell 1; have m2 := HM.out.cell 2; have m3 := HM.out.cell 3; have m4 := HM.out.cell 4; have m5 := HM.out.cell 5; have m6 := HM.out.cell 6; have p0 := HP.out.cell 0; have p1 := HP.out.cell 1; have p2 := HP.out.cell 2; have p4 := HP.out.cell 4
    obtain ⟨b2, hb2⟩ : ∃ b, (!qok || decide (pa < 0) || decide (most < pa) || (bI && pa != 63) || (bC && pa == 0) || (n : Int) != cnt) = b := ⟨_, rfl⟩
    rw [hb2] at HOK
    go_cut [112] (fun s wx => w3 = wx ∧ s = .bool b2)
    case first =>
      have HXB := Lib.hid hb2
      clear hb2
      cases qok with
      | false =>
        go_wp2_with (fail)
        go_meet
        case rel => exact ⟨rfl, by rw [← HXB.out]; rfl⟩
      | true =>
        cases d1 : decide (pa < 0) with
        | true =>
          go_wp2_with (fail)
          go_meet
          case rel => exact ⟨rfl, by rw [← HXB.out, d1]; rfl⟩
        | false =>
          cases d2 : decide (most < pa) with
          | true =>
            go_wp2_with (fail)
            go_meet
            case rel => exact ⟨rfl, by rw [← HXB.out, d1, d2]; rfl⟩
          | false =>
            cases bI with
            | false =>
              cases bC with
              | false =>
                cases d9 : ((n : Int) != cnt) with
                | true =>
                  go_wp2_with (fail)
                  go_meet
                  case rel => exact ⟨rfl, by rw [← HXB.out, d1, d2, d9]; rfl⟩
                | false =>
                  go_wp2_with (fail)
                  go_meet
                  case rel => exact ⟨rfl, by rw [← HXB.out, d1, d2, d9]; rfl⟩
              | true =>
                cases d8 : (pa == 0) with
                | true =>
                  go_wp2_with (fail)
                  go_meet
                  case rel => exact ⟨rfl, by rw [← HXB.out, d1, d2, d8]; rfl⟩
                | false =>
                  cases d9 : ((n : Int) != cnt) with
                  | true =>
                    go_wp2_with (fail)
                    go_meet
                    case rel => exact ⟨rfl, by rw [← HXB.out, d1, d2, d8, d9]; rfl⟩
                  | false =>
                    go_wp2_with (fail)
                    go_meet
                    case rel => exact ⟨rfl, by rw [← HXB.out, d1, d2, d8, d9]; rfl⟩
            | true =>
              cases d7 : (pa != 63) with
              | true =>
                go_wp2_with (fail)
                go_meet
                case rel => exact ⟨rfl, by rw [← HXB.out, d1, d2, d7]; rfl⟩
              | false =>
                cases bC with
                | false =>
                  cases d9 : ((n : Int) != cnt) with
                  | true =>
                    go_wp2_with (fail)
                    go_meet
                    case rel => exact ⟨rfl, by rw [← HXB.out, d1, d2, d7, d9]; rfl⟩
                  | false =>
                    go_wp2_with (fail)
                    go_meet
                    case rel => exact ⟨rfl, by rw [← HXB.out, d1, d2, d7, d9]; rfl⟩
                | true =>
                  cases d8 : (pa == 0) with
                  | true =>
                    go_wp2_with (fail)
                    go_meet
                    case rel => exact ⟨rfl, by rw [← HXB.out, d1, d2, d7, d8]; rfl⟩
                  | false =>
                    cases d9 : ((n : Int) != cnt) with
                    | true =>
                      go_wp2_with (fail)
                      go_meet
                      case rel => exact ⟨rfl, by rw [← HXB.out, d1, d2, d7, d8, d9]; rfl⟩
                    | false =>
                      go_wp2_with (fail)
                      go_meet
                      case rel => exact ⟨rfl, by rw [← HXB.out, d1, d2, d7, d8, d9]; rfl⟩
    obtain ⟨rfl, rfl⟩ := hcut
    clear hb2
    cases b2 with
    | true =>
      have hOf : OK = false := by rw [HOK.out]; rfl
      subst hOf
      go_wp2_with fail
      go_ret
      exact ⟨rfl, HB.out⟩
    | false =>
      rw [Bool.false_or] at HOK
      have CON := Lib.hid (CON.out _ _ (HA.out.below HB.out (Nat.le_refl _)) HP.out)
      cases ANY with
      | true =>
        have hOf : OK = false := by rw [HOK.out]; rfl
        subst hOf
        go_wp2_with (go_at_call 61; refine CON.out.mono ?_; rintro e w4 ⟨rfl, hb4⟩; have HB4 := Lib.hid hb4; clear hb4)
        go_ret
        exact ⟨rfl, HB.out.trans (HB4.out.mono HB.out.size)⟩
      | false =>
        have hOf : OK = true := by rw [HOK.out]; rfl
        subst hOf
        go_wp2_with (go_at_call 61; refine CON.out.mono ?_; rintro e w4 ⟨rfl, hb4⟩; have HB4 := Lib.hid hb4; clear hb4)
        go_ret
        exact ⟨rfl, HB.out.trans (HB4.out.mono HB.out.size)⟩
end Go.Proofs.YtcojnigkgbmbmaaGreatDoor
namespace Go.Proofs.YtcojnigkgbmbmaaGreatDoor
open Go Go.RowKit
theorem u64_and_1 (x : Nat) (hx : x < 18446744073709551616) : bits .and .u64 (x : Int) 1 = ((x % 2 : Nat) : Int) := by
  have := u64_and_nat x 1 hx (by decide)
  rw [Nat.and_one_is_mod] at this
  exact this
def binC (n j : Nat) : UInt8 := if n / 2 ^ j % 2 = 0 then 48 else 49
/-- the low j digits of n, the highest of them first -/
def binD (n : Nat) : Nat → List UInt8
  | 0 => []
  | j + 1 => binC n j :: binD n j
theorem binD_length (n j : Nat) : (binD n j).length = j := by induction j with | zero => rfl | succ j ih => simp [binD, ih]
/-- The cell that is read of the table. -/
def Tz (w : World) : Prop := w.cell? ⟨7, 1, none⟩ = some (.int .u8 1)
theorem Tz.belowB {w w' : World} {B : Nat} (h : Tz w) (hb : Below B w w') (hB : 7 < B) : Tz w' := (hb.cell (p := ⟨7, 1, none⟩) hB).trans h
theorem Tz.lt {w : World} (h : Tz w) : 7 < w.heap.size := by
  unfold Tz at h
  rcases Nat.lt_or_ge 7 w.heap.size with hlt | hge
  · exact hlt
  · simp [World.cell?, Array.getElem?_eq_none hge] at h
theorem Tz.below {w w' : World} (h : Tz w) (hb : Below w.heap.size w w') : Tz w' := by
  unfold Tz at *
  have hl : 7 < w.heap.size := by
    rcases Nat.lt_or_ge 7 w.heap.size with hlt | hge
    · exact hlt
    · simp [World.cell?, Array.getElem?_eq_none hge] at h
  rw [← h]
  exact hb.cell (p := ⟨7, 1, none⟩) hl
theorem tz64 (w : World) (h : Tz w) : Calls Tryz.prog 199 #[.int .u64 2] w fun e w' => e = .returned (.int .i64 1) ∧ w = w' := by
  unfold Tz at h
  have hq : bits BinOp.and IntKind.u64 2 (IntKind.u64.wrap (-2)) = 2 := by decide +kernel
  go_enter Tryz.func199, Tryz.ntmps199
  go_wp2
  go_ret
  exact ⟨rfl, rfl⟩
theorem isp2 (w : World) : Calls Tryz.prog 194 #[.int .i64 2] w fun e w' => e = .returned (.bool true) ∧ w = w' := by
  have h : bits BinOp.and IntKind.i64 2 1 = 0 := by decide +kernel
  go_enter Tryz.func194, Tryz.ntmps194
  go_wp2
  go_ret
  exact ⟨rfl, rfl⟩
theorem tz (w : World) (h : Tz w) : Calls Tryz.prog 195 #[.int .u64 2] w fun e w' => e = .returned (.int .i64 1) ∧ w = w' := by
  have H := Lib.hid h; clear h
  go_enter Tryz.func195, Tryz.ntmps195
  go_wp2_with (go_at_call 199; refine (tz64 _ H.out).mono ?_; rintro e w' ⟨rfl, rfl⟩)
  go_ret
  exact ⟨rfl, rfl⟩
theorem pow_div_ge (n k j : Nat) (hk : 2 ^ k ≤ n) (hj : j < k) : 2 ≤ n / 2 ^ j := by
  rw [Nat.le_div_iff_mul_le (Nat.two_pow_pos j)]
  have : 2 ^ (j + 1) ≤ 2 ^ k := Nat.pow_le_pow_right (by decide) hj
  rw [Nat.pow_succ] at this
  omega
theorem pow_div_one (n k : Nat) (hk : 2 ^ k ≤ n) (hk2 : n < 2 ^ (k + 1)) : n / 2 ^ k = 1 := by
  have h1 : 1 ≤ n / 2 ^ k := by rw [Nat.le_div_iff_mul_le (Nat.two_pow_pos k)]; omega
  have h2 : n / 2 ^ k < 2 := by rw [Nat.div_lt_iff_lt_mul (Nat.two_pow_pos k)]; rw [Nat.pow_succ] at hk2; omega
  omega
/-- what the buffer holds when j digits are there: from 65 - j on -/
def Dig (n : Nat) (cs : Array Value) (j : Nat) : Prop := cs.size = 65 ∧ cs.toList.drop (65 - j) = (binD n j).map byteV
theorem Dig.step {n j : Nat} {cs : Array Value} (h : Dig n cs j) (hj : j < 65) {v : Value} (hv : v = byteV (binC n j)) : Dig n (cs.setIfInBounds (64 - j) v) (j + 1) := by
  obtain ⟨h1, h2⟩ := h
  subst hv
  refine ⟨by simpa using h1, ?_⟩
  have e : 65 - (j + 1) = 64 - j := by omega
  have hl : 64 - j < (cs.toList.set (64 - j) (byteV (binC n j))).length := by simp; omega
  rw [e, Array.toList_setIfInBounds, List.drop_eq_getElem_cons hl, List.getElem_set_self, List.drop_set_of_lt (by omega), show 64 - j + 1 = 65 - j by omega, h2]
  rfl
set_option maxHeartbeats 1000000 in
set_option maxRecDepth 100000 in
theorem formatBits2 (n : Nat) (k : Nat) (hk : 2 ^ k ≤ n) (hk2 : n < 2 ^ (k + 1)) (hkk : k < 32) (w : World) (hT : Tz w) :
    Calls Tryz.prog 187 #[.slice none 0 0, .int .u64 n, .int .i64 2, .bool false, .bool false] w
      fun e w' => e = .returned (.tuple #[.slice none 0 0, .string (bs (binD n (k + 1)))]) ∧ Below w.heap.size w w' := by
  have hn32 : n < 2 ^ 32 := Nat.lt_of_lt_of_le hk2 (Nat.pow_le_pow_right (by decide) (by omega))
  go_enter Tryz.func187, Tryz.ntmps187
  go_wp2_with (first | (go_at_call 194; refine (isp2 _).mono ?_; rintro e w' ⟨rfl, rfl⟩) | (go_at_call 195; refine (tz _ (hT.below ((Below.refl _ _).alloc (Nat.le_refl _) _))).mono ?_; rintro e w' ⟨rfl, rfl⟩))
  go_loopw [1, 13] (fun u i wr => ∃ (j m q : Nat) (cs : Array Value), m + j = 65 ∧ j ≤ k ∧ Hid (q = n / 2 ^ j) ∧ u = .int .u64 (q : Int) ∧ i = .int .i64 (m : Int) ∧ Blk wr w.heap.size 243 cs ∧ Dig n cs j ∧ Below w.heap.size w wr) (fun u _ _ => (intOf u).toNat)
  case atStart => exact ⟨0, 65, n, _, by omega, by omega, Lib.hid (by simp), rfl, rfl, Blk.new _ _ _, ⟨by kernel_rfl, by kernel_rfl⟩, (Below.refl _ _).alloc (Nat.le_refl _) _⟩
  case round =>
    obtain ⟨j, m, q, cs, hm, hj, Hq, rfl, rfl, hblk, hdig, hbel⟩ := hrel
    have hq0 : q ≤ n := by rw [Hq.out]; exact Nat.div_le_self _ _
    obtain ⟨v0, hc64⟩ : ∃ v0, wr.cell? ⟨w.heap.size, m - 1, none⟩ = some v0 := ⟨cs[m - 1]'(by rw [hdig.1]; omega), by rw [hblk.cell]; simp⟩
    have hf64 := hblk.frozen (m - 1)
    have Hst : ∀ v, v = byteV (binC n j) → Blk (wr.setCell ⟨w.heap.size, m - 1, none⟩ v) w.heap.size 243 (cs.setIfInBounds (m - 1) v) ∧ Dig n (cs.setIfInBounds (m - 1) v) (j + 1) ∧ Below w.heap.size w (wr.setCell ⟨w.heap.size, m - 1, none⟩ v) := fun v hv => by
      refine ⟨hblk.set_ _ _, ?_, hbel.setCell (p := ⟨w.heap.size, m - 1, none⟩) (Nat.le_refl _) _⟩
      have h64 := hdig.step (by omega) hv
      rwa [show 64 - j = m - 1 by omega] at h64
    have Hst := Lib.hid Hst
    by_cases hlt : j < k
    · have hge : 2 ≤ q := by rw [Hq.out]; exact pow_div_ge n k j hk hlt
      have hand := u64_and_1 q (by omega)
      have hqq : q / 2 = n / 2 ^ (j + 1) := by rw [Hq.out, Nat.div_div_eq_div_mul, Nat.pow_succ]
      have Hqq := Lib.hid hqq
      clear hqq
      by_cases hz : q % 2 = 0
      · have hb : byteV (binC n j) = .int .u8 48 := by simp [binC, ← Hq.out, hz, byteV]
        have Hb := Lib.hid hb
        rw [hz] at hand
        clear hb hz
        go_wp2
        obtain ⟨h1, h2, h3⟩ := Hst.out _ Hb.out.symm
        exact ⟨⟨j + 1, m - 1, q / 2, _, by omega, by omega, Hqq, by simp, by congr 1; omega, h1, h2, h3⟩, by simp [intOf]; omega⟩
      · have hz1 : q % 2 = 1 := by omega
        have hb : byteV (binC n j) = .int .u8 49 := by simp [binC, ← Hq.out, hz, byteV]
        have Hb := Lib.hid hb
        rw [hz1] at hand
        clear hb hz hz1
        go_wp2
        obtain ⟨h1, h2, h3⟩ := Hst.out _ Hb.out.symm
        exact ⟨⟨j + 1, m - 1, q / 2, _, by omega, by omega, Hqq, by simp, by congr 1; omega, h1, h2, h3⟩, by simp [intOf]; omega⟩
    · obtain rfl : j = k := by omega
      obtain rfl : q = 1 := by rw [Hq.out]; exact pow_div_one n j hk hk2
      have hb : byteV (binC n j) = .int .u8 49 := by simp [binC, ← Hq.out, byteV]
      have Hb := Lib.hid hb
      clear hb
      have hsl := run_arr_from (P := Tryz.prog) 243 5 65 1 ⟨w.heap.size, 0, none⟩ (by kernel_rfl) (by kernel_rfl) ((m : Int) - 1) (m - 1) (by omega) (by omega)
      obtain ⟨h1, h2, h3⟩ := Hst.out _ Hb.out.symm
      have hdig : ({ data := #[48, 49, 50, 51, 52, 53, 54, 55, 56, 57, 97, 98, 99, 100, 101, 102, 103, 104, 105, 106, 107, 108, 109, 110, 111, 112, 113, 114, 115, 116, 117, 118, 119, 120, 121, 122] } : ByteArray)[1].toNat = 49 := by decide
      have hS := h1.sl (m - 1)
      rw [show (cs.setIfInBounds (m - 1) (.int .u8 49)).toList.drop (m - 1) = (binD n (j + 1)).map byteV by rw [show m - 1 = 65 - (j + 1) by omega]; rw [show m - 1 = 65 - (j + 1) by omega] at h2; exact h2.2] at hS
      have hcv := run_bytes_str (P := Tryz.prog) 22 9 5 (by kernel_rfl) (by kernel_rfl) (by kernel_rfl) hS (65 - (m - 1)) (65 - (m - 1)) (by rw [binD_length]; omega)
      go_wp2
      go_ret2
      exact ⟨rfl, h3⟩
theorem fmt2i (n : Nat) (k : Nat) (hk : 2 ^ k ≤ n) (hk2 : n < 2 ^ (k + 1)) (hkk : k < 32) (w : World) (hT : Tz w) :
    Calls Tryz.prog 174 #[.int .i64 n, .int .i64 2] w fun e w' => e = .returned (.string (bs (binD n (k + 1)))) ∧ Below w.heap.size w w' := by
  have HT := Lib.hid hT; clear hT
  have hn32 : n < 2 ^ 32 := Nat.lt_of_lt_of_le hk2 (Nat.pow_le_pow_right (by decide) (by omega))
  have h0 : decide ((n : Int) < 0) = false := by simp
  go_enter Tryz.func174, Tryz.ntmps174
  go_wp2_with (go_at_call 187; refine (formatBits2 n k hk hk2 hkk _ HT.out).mono ?_; rintro e w' ⟨rfl, hb⟩)
  go_ret
  exact ⟨rfl, hb⟩
theorem fmt2 (n : Int) (k : Nat) (hk : 2 ^ k ≤ n.toNat) (hk2 : n.toNat < 2 ^ (k + 1)) (hkk : k < 32) (w : World) (hT : Tz w) :
    Calls Tryz.prog 160 #[.int .i64 n, .int .i64 2] w fun e w' => e = .returned (.string (bs (binD n.toNat (k + 1)))) ∧ Below w.heap.size w w' := by
  have HT := Lib.hid hT; clear hT
  obtain ⟨n, rfl⟩ : ∃ m : Nat, n = m := ⟨n.toNat, by have := Nat.one_le_two_pow (n := k); omega⟩
  rw [Int.toNat_natCast] at hk hk2 ⊢
  go_enter Tryz.func160, Tryz.ntmps160
  go_wp2_with (go_at_call 174; refine (fmt2i n k hk hk2 hkk _ HT.out).mono ?_; rintro e w' ⟨rfl, hb⟩)
  go_ret
  exact ⟨rfl, hb⟩
end Go.Proofs.YtcojnigkgbmbmaaGreatDoor
