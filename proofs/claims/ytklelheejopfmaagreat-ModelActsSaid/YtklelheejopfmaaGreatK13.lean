/- Down, Heaps, SeqO -/
import Derived.Test.YtklelheejopfmaaGreatK12
import Derived.Test.YtklelheejopfmaaGreatK06
namespace Go.Proofs.YtklelheejopfmaaGreat
open Go Go.RowKit
attribute [local go_sem] Oper.semAt_some
theorem kids_one {n i j1 j2 : Nat} (a1 : 2 * i + 1 = j1) (a2 : 2 * i + 2 = j2) {ys : List Hd} (h : n ≤ j2) : ∀ k, 0 < k → k < n → par k = i → ¬ ltH (hx ys k) (hx ys j1) := fun k h0 hk hp => by
  subst a1 a2
  rw [par_kids h0] at hp
  have : k = 2 * i + 1 := by omega
  subst this; exact ltH_irr _
theorem kids_left {n i j1 j2 : Nat} (a1 : 2 * i + 1 = j1) (a2 : 2 * i + 2 = j2) {ys : List Hd} (h : ¬ ltH (hx ys j2) (hx ys j1)) : ∀ k, 0 < k → k < n → par k = i → ¬ ltH (hx ys k) (hx ys j1) := fun k h0 hk hp => by
  subst a1 a2
  rw [par_kids h0] at hp
  rcases hp with rfl | rfl
  · exact ltH_irr _
  · exact h
theorem kids_right {n i j1 j2 : Nat} (a1 : 2 * i + 1 = j1) (a2 : 2 * i + 2 = j2) {ys : List Hd} (h : ltH (hx ys j2) (hx ys j1)) : ∀ k, 0 < k → k < n → par k = i → ¬ ltH (hx ys k) (hx ys j2) := fun k h0 hk hp => by
  subst a1 a2
  rw [par_kids h0] at hp
  rcases hp with rfl | rfl
  · exact ltH_asym h
  · exact ltH_irr _
def DownPost (bh base g n cap m : Nat) (xs : List Hd) (w : World) (e : Ending) (w' : World) : Prop :=
  (∃ u, e = .returned u) ∧ ∃ ys, HpAt w' bh base g n cap ys ∧ ys.Perm xs ∧ HeapOk m ys ∧ Turn (fun b => b = g) w w' ∧ ∀ k, m ≤ k → hx ys k = hx xs k
set_option maxRecDepth 100000 in
set_option maxHeartbeats 1000000 in
theorem heap_down (w : World) (bh base g n cap : Nat) (xs : List Hd) (h : HpAt w bh base g n cap xs) (hl : n ≤ 1000) (m : Nat) (hm : m ≤ n) (hd : DownInv m xs 0) :
    Calls Tryz.prog 81 #[hpI bh, .int .i64 0, .int .i64 (m : Int)] w (DownPost bh base g n cap m xs w) := by
  have H := Lib.hid h
  have HD := Lib.hid hd
  have HN := Lib.hid (And.intro hl hm)
  have HT0 := Lib.hid (Turn.refl (fun b => b = g) w)
  clear h hd hl hm
  go_enter Tryz.func81, Tryz.ntmps81
  go_wp2_with fail
  go_loopw [7] (fun v7 wr => ∃ (i : Nat) (ys : List Hd), v7 = .int .i64 (i : Int) ∧ i ≤ m ∧ Hid (HpAt wr bh base g n cap ys) ∧ Hid (ys.Perm xs) ∧ Hid (DownInv m ys i) ∧ Hid (Turn (fun b => b = g) w wr) ∧ Hid (∀ k, m ≤ k → hx ys k = hx xs k)) (fun v7 _ => m - (ixI v7).toNat)
  case atStart => exact ⟨0, xs, rfl, Nat.zero_le _, H, Lib.hid (List.Perm.refl _), HD, HT0, Lib.hid (fun _ _ => rfl)⟩
  case round =>
    obtain ⟨i, ys, rfl, hi, HA, HP, HI, HT, HK⟩ := hrel
    have hn := HN.out
    have e0 : wrap64 (2 * (i : Int)) = 2 * (i : Int) := wrap64_id (by omega) (by omega)
    obtain ⟨j1, hj1⟩ : ∃ j1, 2 * i + 1 = j1 := ⟨_, rfl⟩
    obtain ⟨j2, hj2⟩ : ∃ j2, 2 * i + 2 = j2 := ⟨_, rfl⟩
    have e1 : wrap64 (2 * (i : Int) + 1) = (j1 : Int) := by rw [wrap64_id (by omega) (by omega)]; omega
    have e2 : wrap64 ((j1 : Int) + 1) = (j2 : Int) := by rw [wrap64_id (by omega) (by omega)]; omega
    have e3 : ¬ ((j1 : Int) < 0) := by omega
    have HJ := Lib.hid (And.intro hj1 hj2)
    clear hn
    by_cases h1 : m ≤ j1
    · have h2 : (m : Int) ≤ (j1 : Int) := by omega
      have HE := Lib.hid h1
      clear h1 hi hj1 hj2
      go_wp2_with fail
      go_ret
      exact ⟨⟨_, rfl⟩, ys, HA.out, HP.out, down_end0 HI.out (by have := HE.out; have := HJ.out; omega), HT.out, HK.out⟩
    · have h2 : ¬ ((m : Int) ≤ (j1 : Int)) := by omega
      have c0 := HA.out.1.cell 0
      by_cases h3 : j2 < m
      · have h4 : (j2 : Int) < (m : Int) := by omega
        obtain ⟨r, hr⟩ : ∃ r, decide (ltH (hx ys j2) (hx ys j1)) = r := ⟨_, rfl⟩
        have HLA : Hid (∀ (_ : True), _) := Lib.hid (fun (_ : True) => hold_Less g n cap base ys wr HA.out.2.1 HA.out.2.2 j2 j1 (by have := HN.out; omega) (by have := HN.out; omega))
        rw [hr] at HLA
        have HRR := Lib.hid hr
        have HQ := Lib.hid (show i < j1 ∧ j1 < j2 ∧ j2 < m ∧ m ≤ n from ⟨by omega, by omega, h3, HN.out.2⟩)
        clear h1 h3 hi hr hj1 hj2
        cases r with
        | true =>
          have HM := Lib.hid (kids_right (n := m) HJ.out.1 HJ.out.2 (of_decide_eq_true HRR.out))
          have HPJ := Lib.hid (show par j2 = i by have := HJ.out; unfold par; omega)
          obtain ⟨r2, hr2⟩ : ∃ r2, decide (ltH (hx ys (j2)) (hx ys i)) = r2 := ⟨_, rfl⟩
          have HR2 := Lib.hid hr2
          have HLB : Hid (∀ (W : World) (_ : HpAt W bh base g n cap ys), Calls Tryz.prog 122 #[.slice (some ⟨g, 0, none⟩) n cap, .int .i64 (j2 : Int), .int .i64 (i : Int)] W fun e w' => e = .returned (.bool r2) ∧ Below W.heap.size W w') := Lib.hid (fun W hW => by
            have h1 := hold_Less g n cap base ys W hW.2.1 hW.2.2 (j2) i (by have := HQ.out; omega) (by have := HQ.out; omega)
            rw [hr2] at h1; exact h1)
          clear hr2
          cases r2 with
          | true =>
            have hm := met_Less bh _ wr c0; have TOK : True := trivial; have TOK1 : True := trivial
            go_wp2_with (first
              | (go_at_call 122; clear TOK1; refine (HLA.out trivial).mono ?_; rintro e w1 ⟨rfl, hb1⟩; have HA1 := Lib.hid (HA.out.below hb1); have HB1 := Lib.hid hb1; have c1 := HA1.out.1.cell 0; have hm1 := met_Less bh _ _ c1; clear hb1)
              | (go_at_call 122; clear TOK; refine (HLB.out _ (HA1).out).mono ?_; rintro e w2 ⟨rfl, hb2⟩; have HA2 := Lib.hid ((HA1).out.below hb2); have HB2 := Lib.hid hb2; have c2 := HA2.out.1.cell 0; have hm2 := met_Swap bh _ _ c2; clear hb2)
              | (go_at_call 123; refine (hold_Swap g n cap base ys _ HA2.out.2.1 HA2.out.2.2 i (j2) (by have := HQ.out; omega) (by have := HQ.out; omega)).mono ?_; rintro e w3 ⟨⟨u, rfl⟩, hr3, ht3⟩; have HA3 := Lib.hid (HA2.out.turn hr3 ((swapH_len _ _ _).trans HA2.out.2.2) ht3); have HT3 := Lib.hid (((HT.out.trans (Turn.of_below HB1.out)).trans (Turn.of_below HB2.out)).trans ht3); clear hr3 ht3))
            go_roundw
            case rel =>
              refine ⟨j2, swapH ys i (j2), rfl, by have := HQ.out; omega, HA3, Lib.hid ?_, Lib.hid ?_, HT3, Lib.hid ?_⟩
              · exact (swapH_perm (by have := HQ.out; have := HA.out.2.2; omega) (by have := HQ.out; have := HA.out.2.2; omega)).trans HP.out
              · exact down_step (by have := HQ.out; have := HA.out.2.2; omega) HPJ.out (by have := HQ.out; omega) (by have := HQ.out; omega) HM.out HI.out (of_decide_eq_true HR2.out)
              · intro k hk
                rw [hx_swap (by have := HQ.out; have := HA.out.2.2; omega) (by have := HQ.out; have := HA.out.2.2; omega), if_neg (by have := HQ.out; omega), if_neg (by have := HQ.out; omega)]
                exact HK.out k hk
            case measure =>
              have := HQ.out
              show m - ((j2 : Int)).toNat < m - ((i : Int)).toNat
              omega
          | false =>
            have hm := met_Less bh _ wr c0; have TOK : True := trivial; have TOK1 : True := trivial
            go_wp2_with (first
              | (go_at_call 122; clear TOK1; refine (HLA.out trivial).mono ?_; rintro e w1 ⟨rfl, hb1⟩; have HA1 := Lib.hid (HA.out.below hb1); have HB1 := Lib.hid hb1; have c1 := HA1.out.1.cell 0; have hm1 := met_Less bh _ _ c1; clear hb1)
              | (go_at_call 122; clear TOK; refine (HLB.out _ (HA1).out).mono ?_; rintro e w2 ⟨rfl, hb2⟩; have HA2 := Lib.hid ((HA1).out.below hb2); have HB2 := Lib.hid hb2; clear hb2))
            go_ret
            exact ⟨⟨_, rfl⟩, ys, HA2.out, HP.out, down_end HI.out HM.out (of_decide_eq_false HR2.out), (HT.out.trans (Turn.of_below HB1.out)).trans (Turn.of_below HB2.out), HK.out⟩
        | false =>
          have HM := Lib.hid (kids_left (n := m) HJ.out.1 HJ.out.2 (of_decide_eq_false HRR.out))
          have HPJ := Lib.hid (show par j1 = i by have := HJ.out; unfold par; omega)
          obtain ⟨r2, hr2⟩ : ∃ r2, decide (ltH (hx ys (j1)) (hx ys i)) = r2 := ⟨_, rfl⟩
          have HR2 := Lib.hid hr2
          have HLB : Hid (∀ (W : World) (_ : HpAt W bh base g n cap ys), Calls Tryz.prog 122 #[.slice (some ⟨g, 0, none⟩) n cap, .int .i64 (j1 : Int), .int .i64 (i : Int)] W fun e w' => e = .returned (.bool r2) ∧ Below W.heap.size W w') := Lib.hid (fun W hW => by
            have h1 := hold_Less g n cap base ys W hW.2.1 hW.2.2 (j1) i (by have := HQ.out; omega) (by have := HQ.out; omega)
            rw [hr2] at h1; exact h1)
          clear hr2
          cases r2 with
          | true =>
            have hm := met_Less bh _ wr c0; have TOK : True := trivial; have TOK1 : True := trivial
            go_wp2_with (first
              | (go_at_call 122; clear TOK1; refine (HLA.out trivial).mono ?_; rintro e w1 ⟨rfl, hb1⟩; have HA1 := Lib.hid (HA.out.below hb1); have HB1 := Lib.hid hb1; have c1 := HA1.out.1.cell 0; have hm1 := met_Less bh _ _ c1; clear hb1)
              | (go_at_call 122; clear TOK; refine (HLB.out _ (HA1).out).mono ?_; rintro e w2 ⟨rfl, hb2⟩; have HA2 := Lib.hid ((HA1).out.below hb2); have HB2 := Lib.hid hb2; have c2 := HA2.out.1.cell 0; have hm2 := met_Swap bh _ _ c2; clear hb2)
              | (go_at_call 123; refine (hold_Swap g n cap base ys _ HA2.out.2.1 HA2.out.2.2 i (j1) (by have := HQ.out; omega) (by have := HQ.out; omega)).mono ?_; rintro e w3 ⟨⟨u, rfl⟩, hr3, ht3⟩; have HA3 := Lib.hid (HA2.out.turn hr3 ((swapH_len _ _ _).trans HA2.out.2.2) ht3); have HT3 := Lib.hid (((HT.out.trans (Turn.of_below HB1.out)).trans (Turn.of_below HB2.out)).trans ht3); clear hr3 ht3))
            go_roundw
            case rel =>
              refine ⟨j1, swapH ys i (j1), rfl, by have := HQ.out; omega, HA3, Lib.hid ?_, Lib.hid ?_, HT3, Lib.hid ?_⟩
              · exact (swapH_perm (by have := HQ.out; have := HA.out.2.2; omega) (by have := HQ.out; have := HA.out.2.2; omega)).trans HP.out
              · exact down_step (by have := HQ.out; have := HA.out.2.2; omega) HPJ.out (by have := HQ.out; omega) (by have := HQ.out; omega) HM.out HI.out (of_decide_eq_true HR2.out)
              · intro k hk
                rw [hx_swap (by have := HQ.out; have := HA.out.2.2; omega) (by have := HQ.out; have := HA.out.2.2; omega), if_neg (by have := HQ.out; omega), if_neg (by have := HQ.out; omega)]
                exact HK.out k hk
            case measure =>
              have := HQ.out
              show m - ((j1 : Int)).toNat < m - ((i : Int)).toNat
              omega
          | false =>
            have hm := met_Less bh _ wr c0; have TOK : True := trivial; have TOK1 : True := trivial
            go_wp2_with (first
              | (go_at_call 122; clear TOK1; refine (HLA.out trivial).mono ?_; rintro e w1 ⟨rfl, hb1⟩; have HA1 := Lib.hid (HA.out.below hb1); have HB1 := Lib.hid hb1; have c1 := HA1.out.1.cell 0; have hm1 := met_Less bh _ _ c1; clear hb1)
              | (go_at_call 122; clear TOK; refine (HLB.out _ (HA1).out).mono ?_; rintro e w2 ⟨rfl, hb2⟩; have HA2 := Lib.hid ((HA1).out.below hb2); have HB2 := Lib.hid hb2; clear hb2))
            go_ret
            exact ⟨⟨_, rfl⟩, ys, HA2.out, HP.out, down_end HI.out HM.out (of_decide_eq_false HR2.out), (HT.out.trans (Turn.of_below HB1.out)).trans (Turn.of_below HB2.out), HK.out⟩
      · have h4 : ¬ ((j2 : Int) < (m : Int)) := by omega
        have HQ := Lib.hid (show i < j1 ∧ j1 < m ∧ m ≤ n from ⟨by omega, by omega, HN.out.2⟩)
        have HM := Lib.hid (kids_one (n := m) (ys := ys) HJ.out.1 HJ.out.2 (by omega))
        have HPJ := Lib.hid (show par j1 = i by have := HJ.out; unfold par; omega)
        clear h1 h3 hi hj1 hj2
        obtain ⟨r2, hr2⟩ : ∃ r2, decide (ltH (hx ys (j1)) (hx ys i)) = r2 := ⟨_, rfl⟩
        have HR2 := Lib.hid hr2
        have HLB : Hid (∀ (W : World) (_ : HpAt W bh base g n cap ys), Calls Tryz.prog 122 #[.slice (some ⟨g, 0, none⟩) n cap, .int .i64 (j1 : Int), .int .i64 (i : Int)] W fun e w' => e = .returned (.bool r2) ∧ Below W.heap.size W w') := Lib.hid (fun W hW => by
          have h1 := hold_Less g n cap base ys W hW.2.1 hW.2.2 (j1) i (by have := HQ.out; omega) (by have := HQ.out; omega)
          rw [hr2] at h1; exact h1)
        clear hr2
        cases r2 with
        | true =>
          have hm := met_Less bh _ wr c0; have TOK : True := trivial
          go_wp2_with (first
            | (go_at_call 122; clear TOK; refine (HLB.out _ (HA).out).mono ?_; rintro e w2 ⟨rfl, hb2⟩; have HA2 := Lib.hid ((HA).out.below hb2); have HB2 := Lib.hid hb2; have c2 := HA2.out.1.cell 0; have hm2 := met_Swap bh _ _ c2; clear hb2)
            | (go_at_call 123; refine (hold_Swap g n cap base ys _ HA2.out.2.1 HA2.out.2.2 i (j1) (by have := HQ.out; omega) (by have := HQ.out; omega)).mono ?_; rintro e w3 ⟨⟨u, rfl⟩, hr3, ht3⟩; have HA3 := Lib.hid (HA2.out.turn hr3 ((swapH_len _ _ _).trans HA2.out.2.2) ht3); have HT3 := Lib.hid (((HT.out).trans (Turn.of_below HB2.out)).trans ht3); clear hr3 ht3))
          go_roundw
          case rel =>
            refine ⟨j1, swapH ys i (j1), rfl, by have := HQ.out; omega, HA3, Lib.hid ?_, Lib.hid ?_, HT3, Lib.hid ?_⟩
            · exact (swapH_perm (by have := HQ.out; have := HA.out.2.2; omega) (by have := HQ.out; have := HA.out.2.2; omega)).trans HP.out
            · exact down_step (by have := HQ.out; have := HA.out.2.2; omega) HPJ.out (by have := HQ.out; omega) (by have := HQ.out; omega) HM.out HI.out (of_decide_eq_true HR2.out)
            · intro k hk
              rw [hx_swap (by have := HQ.out; have := HA.out.2.2; omega) (by have := HQ.out; have := HA.out.2.2; omega), if_neg (by have := HQ.out; omega), if_neg (by have := HQ.out; omega)]
              exact HK.out k hk
          case measure =>
            have := HQ.out
            show m - ((j1 : Int)).toNat < m - ((i : Int)).toNat
            omega
        | false =>
          have hm := met_Less bh _ wr c0; have TOK : True := trivial
          go_wp2_with (first
            | (go_at_call 122; clear TOK; refine (HLB.out _ (HA).out).mono ?_; rintro e w2 ⟨rfl, hb2⟩; have HA2 := Lib.hid ((HA).out.below hb2); have HB2 := Lib.hid hb2; clear hb2))
          go_ret
          exact ⟨⟨_, rfl⟩, ys, HA2.out, HP.out, down_end HI.out HM.out (of_decide_eq_false HR2.out), (HT.out).trans (Turn.of_below HB2.out), HK.out⟩
end Go.Proofs.YtklelheejopfmaaGreat
namespace Go.Proofs.YtklelheejopfmaaGreat
open Go Go.RowKit
attribute [local go_sem] Oper.semAt_some
/-- the variable of holders holds a heap that is zs up to order. -/
def HpP (zs : List Hd) (bh base : Nat) (w' : World) : Prop := ∃ v' ys, Blk w' bh 114 #[v'] ∧ HRow w' base v' ys ∧ ys.Perm zs ∧ HeapOk ys.length ys
theorem own_g (g n cap : Nat) : (Value.slice (some ⟨g, 0, none⟩) n cap).ownBlock = some g := rfl
set_option maxRecDepth 100000 in
theorem heap_Push (w : World) (bh base : Nat) (v : Value) (xs : List Hd) (hb : Blk w bh 114 #[v]) (h : HRow w base v xs) (hp : HeapOk xs.length xs) (hbase : base ≤ w.heap.size) (hl : xs.length ≤ 900) (x : Hd) :
    Calls Tryz.prog 74 #[hpI bh, .iface 93 (.agg #[.int .i64 x.1, .int .i64 x.2])] w fun e w' => (∃ u, e = .returned u) ∧
      ∃ v' ys, Blk w' bh 114 #[v'] ∧ HRow w' base v' ys ∧ ys.Perm (x :: xs) ∧ HeapOk ys.length ys ∧ Turn (fun b => b = bh ∨ v.ownBlock = some b) w w' ∧ (v'.ownBlock = v.ownBlock ∨ ∃ g, v'.ownBlock = some g ∧ w.heap.size ≤ g) := by
  have CP := Lib.hid (hold_Push w bh base v xs hb h hbase (by omega) x)
  have HL := Lib.hid hl
  have HH := Lib.hid hp
  clear hb h hp hbase hl
  go_enter Tryz.func74, Tryz.ntmps74
  go_wp2_with (first
    | (go_at_call 125; refine CP.out.mono ?_; rintro e w1 ⟨⟨u, rfl⟩, v', hb', hr', ht', ho'⟩; obtain ⟨N, hN⟩ : ∃ N, (xs ++ [x]).length = N := ⟨_, rfl⟩; obtain ⟨g', cap', rfl, _, _⟩ := row_shape hr' (by simp); rw [hN] at hb' hr'; have HA := Lib.hid (show HpAt w1 bh base g' N cap' (xs ++ [x]) from ⟨hb', hr', hN⟩); have c1 := hb'.cell 0; have hm1 := met_Len bh _ w1 c1; have HT := Lib.hid ht'; have HO := Lib.hid ho'; have HN := Lib.hid (show N = xs.length + 1 by rw [← hN]; simp); have hw : wrap64 ((N : Int) - 1) = (xs.length : Int) := by { have := HL.out; have := HN.out; rw [wrap64_id (by omega) (by omega)]; omega }; clear hb' hr' ht' ho' hN)
    | (go_at_call 121; refine (hold_Len _ _ _ _).mono ?_; rintro e w2 ⟨rfl, rfl⟩)
    | (go_at_call 80; refine (heap_up _ bh base g' N cap' (xs ++ [x]) HA.out (by have := HL.out; have := HN.out; omega) xs.length (by have := HN.out; omega) (by have h1 := up_start HH.out x; rw [HA.out.2.2] at h1; exact h1)).mono ?_; rintro e w3 ⟨⟨u3, rfl⟩, ys, ha3, hp3, hh3, ht3⟩; have HA3 := Lib.hid ha3; have HP3 := Lib.hid hp3; have HH3 := Lib.hid hh3; have HT3 := Lib.hid ht3; clear ha3 hp3 hh3 ht3))
  go_end0
  have hT : Turn (fun b => b = bh ∨ v.ownBlock = some b) w w3 := by
    refine HT.out.trans' HT3.out (fun i hi hl => ?_)
    subst hi
    rcases HO.out with h1 | ⟨g, h1, h2⟩
    · rw [own_g] at h1
      exact .inr h1.symm
    · rw [own_g] at h1
      cases h1
      omega
  exact ⟨⟨_, rfl⟩, _, ys, HA3.out.1, HA3.out.2.1, HP3.out.trans (List.perm_append_comm (l₁ := xs) (l₂ := [x])), by rw [HA3.out.2.2]; exact HH3.out, hT, HO.out⟩
theorem split_last {ys : List Hd} {m : Nat} (h : ys.length = m + 1) : ys = ys.take m ++ [hx ys m] := by
  rw [hx_lt (by omega), ← List.take_succ_eq_append_getElem (by omega), ← h, List.take_length]
theorem pop_perm {xs ys : List Hd} {m : Nat} (hx0 : xs.length = m + 1) (hp : ys.Perm (swapH xs 0 m)) (hk : hx ys m = hx (swapH xs 0 m) m) : hx ys m = hx xs 0 ∧ xs.Perm (hx xs 0 :: ys.take m) := by
  have h1 : hx ys m = hx xs 0 := by rw [hk, hx_swap (by omega) (by omega), if_pos rfl]
  have hl : ys.length = m + 1 := by rw [hp.length_eq, swapH_len, hx0]
  refine ⟨h1, ?_⟩
  have h2 := hp.trans (swapH_perm (xs := xs) (i := 0) (j := m) (by omega) (by omega))
  rw [split_last hl, h1] at h2
  exact h2.symm.trans (List.perm_append_comm (l₁ := ys.take m) (l₂ := [hx xs 0]))
set_option maxRecDepth 100000 in
theorem heap_Pop (w : World) (bh base g m cap : Nat) (xs : List Hd) (h : HpAt w bh base g (m + 1) cap xs) (hp : HeapOk xs.length xs) (hl : m ≤ 900) :
    Calls Tryz.prog 75 #[hpI bh] w fun e w' => e = .returned (.iface 93 (.agg #[.int .i64 (hx xs 0).1, .int .i64 (hx xs 0).2])) ∧
      ∃ ys, HpAt w' bh base g m cap ys ∧ xs.Perm (hx xs 0 :: ys) ∧ HeapOk m ys ∧ Turn (fun b => b = bh ∨ b = g) w w' := by
  have H := Lib.hid h
  have HH := Lib.hid hp
  have HL := Lib.hid hl
  have c0 := h.1.cell 0
  have hm0 := met_Len bh _ w c0
  have hms := met_Swap bh _ w c0
  obtain ⟨N, hN⟩ : ∃ N, m + 1 = N := ⟨_, rfl⟩
  rw [hN] at H c0 hm0 hms
  have hw : wrap64 ((N : Int) - 1) = (m : Int) := by rw [wrap64_id (by omega) (by omega)]; omega
  have HN := Lib.hid hN
  have HPP : Hid (∀ (W : World) (ys : List Hd), HpAt W bh base g N cap ys → ys.Perm (swapH xs 0 m) → hx ys m = hx (swapH xs 0 m) m → Calls Tryz.prog 124 #[.pointer (some ⟨bh, 0, none⟩)] W fun e w' => e = .returned (.iface 93 (.agg #[.int .i64 (hx xs 0).1, .int .i64 (hx xs 0).2])) ∧ Blk w' bh 114 #[.slice (some ⟨g, 0, none⟩) m cap] ∧ HRow w' base (.slice (some ⟨g, 0, none⟩) m cap) (ys.take m) ∧ Turn (fun b => b = bh) W w') :=
    Lib.hid fun W ys hA hP hK => by
      have hx0 : xs.length = m + 1 := by have := h.2.2; omega
      have h4 := pop_perm hx0 hP hK
      have hl4 : ys.length = m + 1 := by have := hA.2.2; omega
      subst hN
      have h5 := hold_Pop W bh base g m cap (ys.take m) (hx ys m) hA.1 (by rw [← split_last hl4]; exact hA.2.1) (by simp; omega) (by omega)
      rw [h4.1] at h5
      exact h5
  clear h hp hl hN
  go_enter Tryz.func75, Tryz.ntmps75
  go_wp2_with (first
    | (go_at_call 121; refine (hold_Len _ _ _ _).mono ?_; rintro e w2 ⟨rfl, rfl⟩)
    | (go_at_call 123; refine (hold_Swap g N cap base xs _ H.out.2.1 H.out.2.2 0 m (by have := HN.out; omega) (by have := HN.out; omega)).mono ?_; rintro e w3 ⟨⟨u, rfl⟩, hr3, ht3⟩; have HA3 := Lib.hid (H.out.turn hr3 ((swapH_len _ _ _).trans H.out.2.2) ht3); have HT3 := Lib.hid ht3; clear hr3 ht3)
    | (go_at_call 81; refine (heap_down _ bh base g N cap (swapH xs 0 m) HA3.out (by have := HL.out; have := HN.out; omega) m (by have := HN.out; omega) (down_start (by have := HN.out; have := H.out.2.2; omega) HH.out)).mono ?_; rintro e w4 ⟨⟨u4, rfl⟩, ys, ha4, hp4, hh4, ht4, hk4⟩; have HA4 := Lib.hid ha4; have HP4 := Lib.hid hp4; have HH4 := Lib.hid hh4; have HT4 := Lib.hid ht4; have HK4 := Lib.hid hk4; clear ha4 hp4 hh4 ht4 hk4)
    | (go_at_call 124; refine (HPP.out w4 ys HA4.out HP4.out (HK4.out m (Nat.le_refl _))).mono ?_; rintro e w5 ⟨rfl, hr5⟩; have HR5 := Lib.hid hr5; clear hr5))
  go_ret
  obtain ⟨hb5, hr5, ht5⟩ := HR5.out
  have h4 := pop_perm (by have := H.out.2.2; have := HN.out; omega) HP4.out (HK4.out m (Nat.le_refl _))
  have hl4 : ys.length = m + 1 := by have := HA4.out.2.2; have := HN.out; omega
  refine ⟨rfl, ys.take m, ⟨hb5, hr5, by simp; omega⟩, h4.2, ?_, ?_⟩
  · have h6 := heap_take (xs := ys) (n := m) (by omega) HH4.out
    have h7 : (ys.take m).length = m := by simp; omega
    rw [h7] at h6
    exact h6
  · refine ((HT3.out.mono (fun k hk => .inr hk)).trans (HT4.out.mono (fun k hk => .inr hk))).trans (ht5.mono (fun k hk => .inl hk))
end Go.Proofs.YtklelheejopfmaaGreat
namespace Go.Proofs.YtklelheejopfmaaGreat
open Go Go.RowKit
/-- the iterator's contract: it lays blocks of its own, turns those alone (between the rounds too), and reads the blocks Rd of w and its own blocks. -/
def SeqOwn {α : Type} (F : Fence) (n : Nat) (P : Program) (g : Nat) (lb : Array Value) (enc : α → Array Value) (S Sp : List α → Prop) (Rd : Nat → Prop) (w : World) : Prop :=
  ∀ (l : Nat) (M : World → Nat → Prop) (J Jx : List α → World → Prop) (W : World), Below w.heap.size w W →
    (∀ (own : Nat → Prop) pre A B, J pre A → Turn own A B → (∀ i, own i → W.heap.size ≤ i ∧ ¬ M A i) → J pre B) → (∀ pre A B, Jx pre A → Below A.heap.size A B → Jx pre B) →
    (∀ (own : Nat → Prop) pre A B, J pre A → Turn own A B → (∀ i, own i → W.heap.size ≤ i ∧ ¬ M A i) → ∀ i, M B i → M A i) → (∀ pre A, J pre A → ∀ i, M A i → ¬ Rd i ∧ i < A.heap.size) →
    (∀ pre x W1, J pre W1 → Sp (pre ++ [x]) → YieldAt F (n - 1) P l (enc x) W1 fun e W' => (e = .returned (.bool true) ∧ J (pre ++ [x]) W' ∧ Fr M W1 W') ∨ (e = .returned (.bool false) ∧ Jx (pre ++ [x]) W')) →
    J [] W → CallsIn F n P g (#[.func (.yield l) #[] #[]] ++ lb) W fun e W' => (∃ v, e = .returned v) ∧ ((∃ xs, S xs ∧ J xs W') ∨ (∃ pre, Sp pre ∧ Jx pre W'))
theorem wp_own {α : Type} {F : Fence} {n : Nat} {P : Program} {g : Operand} {ps : Array Tmp} {assign body : Code} {Q : Exit → Act → World → Prop} {a : Act} {w : World}
    (hro : F.round = none) (h1 : 1 ≤ n) {gf : Nat} {lb : Array Value} (hg : a.eval g = .func (.func gf) #[] lb) (hFg : F.fn gf) (eg : ∀ args w, (callFunc gf args).run P w = .ok (.enter gf args) w)
    {enc : α → Array Value} {S Sp : List α → Prop} {Rd : Nat → Prop} {w0 : World} (hseq : SeqOwn F (n - 1) P gf lb enc S Sp Rd w0) (hb0 : Below w0.heap.size w0 w) (hps : ∀ x, (enc x).size = ps.size)
    (Mc : World → Nat → Prop) (I : List α → World → Prop) (Ix : Code → List α → World → Prop) (hI : OwnFrom w.heap.size I) (hIx : ∀ c, OwnFrom w.heap.size (Ix c))
    (hMb : ∀ pre A B row, I pre A → A.grownBy B row → (∀ r, row = some r → ∃ o : Obj, A.heap[r]? = some o ∧ o.isCells = false) → ∀ i, Mc B i → Mc A i)
    (hIo : ∀ (own : Nat → Prop) pre A B, I pre A → Turn own A B → (∀ i, own i → w.heap.size + 2 ≤ i ∧ ¬ Mc A i) → I pre B ∧ ∀ i, Mc B i → Mc A i)
    (hMl : ∀ pre A, I pre A → ∀ i, Mc A i → ¬ Rd i ∧ i < A.heap.size) (hRd : ∀ i, Rd i → i < w0.heap.size) (h0 : I [] w) (a₁ : α → Act)
    (hassign : ∀ (l : Nat) (x : α) (W : World) (K : Act → World → Prop), K (a₁ x) W → assign.wpIn (F.inRound l) (n - 1 - 1) P (Exit.then K (fun _ _ _ => False)) { tmps := (ps.zip (enc x)).foldl (fun t (p, v) => t.setIfInBounds p v) a.tmps, defers := [] } W)
    (hbody : ∀ (l : Nat) (pre : List α) (x : α) (W : World), w.heap.size ≤ l → I pre W → Sp (pre ++ [x]) → body.wpIn (F.inRound l) (n - 1 - 1) P (ownPostG w.heap.size (Fr (fun A i => i = l ∨ Mc A i)) I Ix (pre ++ [x]) W) (a₁ x) W)
    (hdone : ∀ (D : Nat) (xs : List α) (W : World), w.heap.size ≤ D → S xs → I xs W → W.heap[D]? = some (.deferred (some [])) → Q .normal { a with defers := { target := .collected D, args := #[] } :: a.defers } W)
    (hstop : ∀ (D : Nat) (c : Code) (pre : List α) (W : World), w.heap.size ≤ D → Sp pre → Ix c pre W → W.heap[D]? = some (.deferred (some [])) → c.wpIn F n P Q { a with defers := { target := .collected D, args := #[] } :: a.defers } W) :
    (Code.rangeFunc g ps assign body).wpIn F n P Q a w := by
  refine wpIn_rangeFunc fun fn hfn => ?_
  rw [hro]
  let rec' : LoopState → Option Code → Loop := fun st pe => { state := st, pending := pe, fn, tmps := a.tmps, params := ps, assign, body, defers := w.heap.size }
  let W1 : World := (w.alloc (.deferred (some []))).alloc (.loop (rec' .ready none))
  have hL : W1.heap[w.heap.size + 1]? = some (.loop (rec' .ready none)) := by
    have := World.alloc_heap_new (w.alloc (.deferred (some []))) (.loop (rec' .ready none)); rwa [World.size_alloc] at this
  have hD : W1.heap[w.heap.size]? = some (.deferred (some [])) := (Below.heap_alloc _ _ _ (by simp)).trans (World.alloc_heap_new w _)
  have hsz : W1.heap.size = w.heap.size + 2 := by show ((w.alloc _).alloc _).heap.size = _; simp
  have hW1 : Below w0.heap.size w0 W1 := hb0.trans ((((Below.refl _ w).alloc (Nat.le_refl _) _).alloc (by simp) _).mono hb0.size)
  refine ⟨w.heap.size + 1, [{ target := .collected w.heap.size, args := #[] }], W1, { target := .fn (.func gf) lb, args := #[.func (.yield (w.heap.size + 1)) #[] #[]] }, W1, gf,
    #[.func (.yield (w.heap.size + 1)) #[] #[]] ++ lb, W1, run_enterLoop_outer _ _ _ _ _, ?_, ?_, ?_, fun _ => h1, ?_⟩
  · simp only [resolve, hg]; simp [go_sem]
  · intro f' hf'; simp [Target.leads] at hf'; subst hf'; exact hFg
  · simp [invoke, go_sem, eg]
  have hput : ∀ {s : List α} {J : List α → World → Prop} {W : World} {r : Loop} (o : Obj), OwnFrom w.heap.size J → J s W → W.heap[w.heap.size + 1]? = some (.loop r) → J s (W.putObj (w.heap.size + 1) o) :=
    fun o hJ hs hl => hJ.putObj _ hs (Nat.le_succ _) hl rfl
  have hother : ∀ (W : World) (o : Obj), (W.putObj (w.heap.size + 1) o).heap[w.heap.size]? = W.heap[w.heap.size]? := fun W o => World.putObj_heap_other (Nat.ne_of_lt (Nat.lt_succ_self _))
  have hKb : ∀ {s : List α} {W : World} {r : Loop} (o : Obj), I s W → W.heap[w.heap.size + 1]? = some (.loop r) → Fr (fun A i => i = w.heap.size + 1 ∨ Mc A i) W (W.putObj (w.heap.size + 1) o) := fun {s W r} o hs hl =>
    ⟨by simp, fun i hi hm => World.putObj_heap_other (fun e => hm (.inl e)), fun i hm hi => by
      rcases hm with hm | hm
      · exact .inl hm
      · exact .inr (hMb s W _ (some (w.heap.size + 1)) hs (grownBy_putObj' W _ o) (fun r e => by cases e; exact ⟨_, hl, rfl⟩) i hm)⟩
  have hlater : ∀ {A B : World} {k : Nat} {o : Obj}, Below A.heap.size A B → A.heap[k]? = some o → B.heap[k]? = some o := fun h hk => (h.block _ (Array.getElem?_eq_some_iff.1 hk).1).trans hk
  refine (hseq (w.heap.size + 1) (fun A i => i = w.heap.size + 1 ∨ Mc A i)
    (fun pre W => I pre W ∧ W.heap[w.heap.size + 1]? = some (.loop (rec' .ready none)) ∧ W.heap[w.heap.size]? = some (.deferred (some [])))
    (fun pre W => ∃ c, Ix c pre W ∧ W.heap[w.heap.size + 1]? = some (.loop (rec' .done (some c))) ∧ W.heap[w.heap.size]? = some (.deferred (some [])))
    W1 hW1
    (fun own pre A B hs hb ho => by
      have ho2 : ∀ i, own i → w.heap.size + 2 ≤ i ∧ ¬ Mc A i := fun i hi => ⟨by have := (ho i hi).1; rw [hsz] at this; exact this, fun hm => (ho i hi).2 (.inr hm)⟩
      have hkeep : ∀ (k : Nat) (o : Obj), k < w.heap.size + 2 → A.heap[k]? = some o → B.heap[k]? = some o := fun k o hk hA => (hb.block k (Array.getElem?_eq_some_iff.1 hA).1 (fun hk2 => by have := (ho2 k hk2).1; omega)).trans hA
      exact ⟨(hIo own pre A B hs.1 hb ho2).1, hkeep _ _ (by omega) hs.2.1, hkeep _ _ (by omega) hs.2.2⟩)
    (fun pre A B hs hb => by obtain ⟨c, h1, h2, h3⟩ := hs; exact ⟨c, hIx c pre A B none h1 (grown_of_below hb) (fun r e => by cases e), hlater hb h2, hlater hb h3⟩)
    (fun own pre A B hs hb ho i hm => by
      have ho2 : ∀ i, own i → w.heap.size + 2 ≤ i ∧ ¬ Mc A i := fun i hi => ⟨by have := (ho i hi).1; rw [hsz] at this; exact this, fun hm => (ho i hi).2 (.inr hm)⟩
      rcases hm with hm | hm
      · exact .inl hm
      · exact .inr ((hIo own pre A B hs.1 hb ho2).2 i hm))
    (fun pre A hs i hm => by
      rcases hm with rfl | hm
      · exact ⟨fun h => by have h1 := hRd _ h; have h2 := hb0.size; omega, (Array.getElem?_eq_some_iff.1 hs.2.1).1⟩
      · exact hMl pre A hs.1 i hm)
    ?_ ⟨hI.alloc _ (hI.alloc _ h0), hL, hD⟩).mono ?_
  · rintro pre x W ⟨hi, hl, hk⟩ hsp
    have hlt : w.heap.size + 1 < W.heap.size := (Array.getElem?_eq_some_iff.1 hl).1
    refine ⟨fn, _, assign, body, run_yield (P := P) (args := enc x) hl (hps x), roundIn_of_wpIn hfn (hassign _ x W _ ?_)⟩
    refine ⟨_, run_beginRound hl rfl, ?_⟩
    have hl2 : (W.putObj (w.heap.size + 1) (.loop { rec' .ready none with state := .busy })).heap[w.heap.size + 1]? = some (.loop { rec' .ready none with state := .busy }) := World.putObj_heap_same hlt
    have hk2 := (hother W (.loop { rec' .ready none with state := .busy })).trans hk
    refine wpIn_mono (hbody _ pre x _ (Nat.le_succ _) (hput _ hI hi hl) hsp) ?_
    have fin : ∀ (jump : Option Code) (W3 : World), KeepsFrom w.heap.size (W.putObj (w.heap.size + 1) (.loop { rec' .ready none with state := .busy })) W3 →
        ∃ st, st = (if jump.isNone then LoopState.ready else .done) ∧ (Instr.endRound (w.heap.size + 1) jump).run P W3 = .ok (.bool jump.isNone) (W3.putObj (w.heap.size + 1) (.loop (rec' st jump))) ∧
        W3.heap[w.heap.size + 1]? = some (.loop { rec' .ready none with state := .busy }) ∧
        (W3.putObj (w.heap.size + 1) (.loop (rec' st jump))).heap[w.heap.size + 1]? = some (.loop (rec' st jump)) ∧
        (W3.putObj (w.heap.size + 1) (.loop (rec' st jump))).heap[w.heap.size]? = some (.deferred (some [])) := fun jump W3 hk3 => by
      have hl3 := hk3.same _ _ (Nat.le_succ _) hl2 rfl
      exact ⟨_, rfl, run_endRound (P := P) jump hl3, hl3, World.putObj_heap_same (Array.getElem?_eq_some_iff.1 hl3).1, (hother W3 _).trans (hk3.same _ _ (Nat.le_refl _) hk2 rfl)⟩
    have left : ∀ (c : Code) (W3 : World), KeepsFrom w.heap.size (W.putObj (w.heap.size + 1) (.loop { rec' .ready none with state := .busy })) W3 → Ix c (pre ++ [x]) W3 →
        ∃ v w', (Instr.endRound (w.heap.size + 1) (some c)).run P W3 = .ok v w' ∧ ((Ending.returned v = .returned (.bool true) ∧ (I (pre ++ [x]) w' ∧ w'.heap[w.heap.size + 1]? = some (.loop (rec' .ready none)) ∧ w'.heap[w.heap.size]? = some (.deferred (some []))) ∧ Fr (fun A i => i = w.heap.size + 1 ∨ Mc A i) W w') ∨
          (Ending.returned v = .returned (.bool false) ∧ ∃ c, Ix c (pre ++ [x]) w' ∧ w'.heap[w.heap.size + 1]? = some (.loop (rec' .done (some c))) ∧ w'.heap[w.heap.size]? = some (.deferred (some [])))) := fun c W3 hk3 hx3 => by
      obtain ⟨st, rfl, hr, hl3, hl4, hk4⟩ := fin (some c) W3 hk3
      exact ⟨_, _, hr, .inr ⟨rfl, c, hput _ (hIx c) hx3 hl3, hl4, hk4⟩⟩
    rintro e a3 W3 hp
    cases e with
    | normal =>
      obtain ⟨hk3, hkp3, hi3⟩ := hp
      obtain ⟨st, rfl, hr, hl3, hl4, hk4⟩ := fin none W3 hk3
      exact ⟨_, _, hr, .inl ⟨rfl, ⟨hput _ hI hi3 hl3, hl4, hk4⟩, ((hKb _ hi hl).trans hkp3).trans (hKb _ hi3 hl3)⟩⟩
    | ret => exact left .ret W3 hp.1 hp.2
    | exit id => exact left (.exit id) W3 hp.1 hp.2
    | goto t => exact left (.goto t) W3 hp.1 hp.2
    | panic ch => exact hp.elim
    | outgrown => exact hp.elim
  · rintro e W2 ⟨⟨v, rfl⟩, (⟨xs, hS, hi, hl, hk⟩ | ⟨pre, hSp, c, hi, hl, hk⟩)⟩
    · exact ⟨none, _, run_endLoop (P := P) hl (by simp [rec']), hdone _ xs _ (Nat.le_refl _) hS (hput _ hI hi hl) ((hother _ _).trans hk)⟩
    · exact ⟨some c, _, run_endLoop (P := P) hl (by simp [rec']), hstop _ c pre _ (Nat.le_refl _) hSp (hput _ (hIx c) hi hl) ((hother _ _).trans hk)⟩
end Go.Proofs.YtklelheejopfmaaGreat
