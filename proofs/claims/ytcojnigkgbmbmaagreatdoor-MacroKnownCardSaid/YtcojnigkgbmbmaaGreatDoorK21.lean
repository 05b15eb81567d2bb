/- Cf1 -/
import Derived.Test.YtcojnigkgbmbmaaGreatDoorK19
import Derived.Test.YtcojnigkgbmbmaaGreatDoorK11
import Derived.Test.YtcojnigkgbmbmaaGreatDoorK20
namespace Go.Proofs.YtcojnigkgbmbmaaGreatDoor
open Go Go.RowKit
theorem coeff_same (a b : List UInt8) (w : World) : Calls Tryz.prog 178 #[.string (bs a), .string (bs b)] w fun e w' => e = .returned (.bool (sameB a b)) ∧ Below w.heap.size w w' := by
  unfold sameB
  by_cases h : a.length ≤ b.length
  · have hm : min (a.length : Int) (b.length : Int) = (a.length : Int) := by omega
    have hn : min a.length b.length = a.length := by omega
    have h1 : (a.length : Int) ≤ (b.length : Int) := by omega
    rw [hn, List.take_length]
    go_enter Tryz.func178, Tryz.ntmps178
    go_wp2_with fail
    refine wp_region_treeN (fun _ => True) 6 (.take 0 (.take 1 (.take 2 (.take 3 (.take 4 (.take 5 .done)))))) (by kernel_rfl) (by kernel_rfl) (by simp only [Pln.out, Array.getD_eq_getD_getElem?, List.getElem?_toArray, List.getElem?_cons_zero, List.getElem?_cons_succ, Option.getD_some]; rfl) (by simp only [List.map_cons, List.map_nil]; rfl) (trivial) (fun PE hPE => ?_)
    refine tree_take (v := ?_) rfl (by rfl) ?_ ?_
    rotate_left
    · intro _ hSw; (try dsimp only at hSw); go_simp; (try with_reducible rfl)
    simp only [List.setIfInBounds_toArray, List.set_cons_zero, List.set_cons_succ]
    refine tree_take (v := ?_) rfl (by rfl) ?_ ?_
    rotate_left
    · intro _ hSw; (try dsimp only at hSw); go_simp; (try with_reducible rfl)
    simp only [List.setIfInBounds_toArray, List.set_cons_zero, List.set_cons_succ]
    refine tree_take (v := ?_) rfl (by rfl) ?_ ?_
    rotate_left
    · intro _ hSw; (try dsimp only at hSw); go_simp; (try with_reducible rfl)
    simp only [List.setIfInBounds_toArray, List.set_cons_zero, List.set_cons_succ]
    refine tree_take (v := ?_) rfl (by rfl) ?_ ?_
    rotate_left
    · intro _ hSw; (try dsimp only at hSw); go_simp; (try with_reducible rfl)
    simp only [List.setIfInBounds_toArray, List.set_cons_zero, List.set_cons_succ]
    refine tree_take (v := ?_) rfl (by rfl) ?_ ?_
    rotate_left
    · intro _ hSw; (try dsimp only at hSw); go_simp; (try with_reducible rfl)
    simp only [List.setIfInBounds_toArray, List.set_cons_zero, List.set_cons_succ]
    refine tree_take (v := ?_) rfl (by rfl) ?_ ?_
    rotate_left
    · intro _ hSw; (try dsimp only at hSw); go_simp; (try with_reducible rfl)
    simp only [List.setIfInBounds_toArray, List.set_cons_zero, List.set_cons_succ]
    refine hPE _ _ ?_
    clear hPE PE
    simp only [List.drop_succ_cons, List.drop_zero, List.drop_nil]
    go_wp2_with fail
    refine ⟨rfl, ?_⟩
    go_wp2_with fail
    go_ret
    exact ⟨rfl, (Below.refl _ _).drew⟩
  · have hm : min (a.length : Int) (b.length : Int) = (b.length : Int) := by omega
    have hn : min a.length b.length = b.length := by omega
    have h1 : (b.length : Int) ≤ (a.length : Int) := by omega
    rw [hn, List.take_length]
    go_enter Tryz.func178, Tryz.ntmps178
    go_wp2_with fail
    refine wp_region_treeN (fun _ => True) 6 (.take 0 (.take 1 (.take 2 (.take 3 (.take 4 (.take 5 .done)))))) (by kernel_rfl) (by kernel_rfl) (by simp only [Pln.out, Array.getD_eq_getD_getElem?, List.getElem?_toArray, List.getElem?_cons_zero, List.getElem?_cons_succ, Option.getD_some]; rfl) (by simp only [List.map_cons, List.map_nil]; rfl) (trivial) (fun PE hPE => ?_)
    refine tree_take (v := ?_) rfl (by rfl) ?_ ?_
    rotate_left
    · intro _ hSw; (try dsimp only at hSw); go_simp; (try with_reducible rfl)
    simp only [List.setIfInBounds_toArray, List.set_cons_zero, List.set_cons_succ]
    refine tree_take (v := ?_) rfl (by rfl) ?_ ?_
    rotate_left
    · intro _ hSw; (try dsimp only at hSw); go_simp; (try with_reducible rfl)
    simp only [List.setIfInBounds_toArray, List.set_cons_zero, List.set_cons_succ]
    refine tree_take (v := ?_) rfl (by rfl) ?_ ?_
    rotate_left
    · intro _ hSw; (try dsimp only at hSw); go_simp; (try with_reducible rfl)
    simp only [List.setIfInBounds_toArray, List.set_cons_zero, List.set_cons_succ]
    refine tree_take (v := ?_) rfl (by rfl) ?_ ?_
    rotate_left
    · intro _ hSw; (try dsimp only at hSw); go_simp; (try with_reducible rfl)
    simp only [List.setIfInBounds_toArray, List.set_cons_zero, List.set_cons_succ]
    refine tree_take (v := ?_) rfl (by rfl) ?_ ?_
    rotate_left
    · intro _ hSw; (try dsimp only at hSw); go_simp; (try with_reducible rfl)
    simp only [List.setIfInBounds_toArray, List.set_cons_zero, List.set_cons_succ]
    refine tree_take (v := ?_) rfl (by rfl) ?_ ?_
    rotate_left
    · intro _ hSw; (try dsimp only at hSw); go_simp; (try with_reducible rfl)
    simp only [List.setIfInBounds_toArray, List.set_cons_zero, List.set_cons_succ]
    refine hPE _ _ ?_
    clear hPE PE
    simp only [List.drop_succ_cons, List.drop_zero, List.drop_nil]
    go_wp2_with fail
    refine ⟨rfl, ?_⟩
    go_wp2_with fail
    go_ret
    exact ⟨rfl, (Below.refl _ _).drew⟩
theorem coeff_End (w : World) : Calls Tryz.prog 99 #[] w fun e w' => e = .returned (.string (bs endC)) ∧ w = w' := by
  go_enter Tryz.func99, Tryz.ntmps99
  go_wp2
  go_ret
  exact ⟨rfl, rfl⟩
set_option maxHeartbeats 1000000 in
theorem coeff_pair (p : Int × Int) (w : World) : Calls Tryz.prog 132 #[.agg #[.int .i64 p.1, .int .i64 p.2]] w fun e w' => e = .returned (.bool (pairB p)) ∧ Below w.heap.size w w' := by
  obtain ⟨a, b⟩ := p
  unfold pairB
  dsimp only
  cases d1 : decide (0 ≤ a) with
  | false =>
    simp only [Bool.false_and]
    go_enter Tryz.func132, Tryz.ntmps132
    go_wp2
    go_ret
    exact ⟨rfl, (Below.refl _ _).alloc (Nat.le_refl _) _⟩
  | true =>
    cases d2 : decide (a ≤ 63) with
    | false =>
      simp only [Bool.false_and, Bool.and_false]
      go_enter Tryz.func132, Tryz.ntmps132
      go_wp2
      go_ret
      exact ⟨rfl, (Below.refl _ _).alloc (Nat.le_refl _) _⟩
    | true =>
      cases d3 : decide (-127 ≤ b) with
      | false =>
        simp only [Bool.false_and, Bool.and_false]
        go_enter Tryz.func132, Tryz.ntmps132
        go_wp2
        go_ret
        exact ⟨rfl, (Below.refl _ _).alloc (Nat.le_refl _) _⟩
      | true =>
        cases d4 : decide (b ≤ 127) with
        | false =>
          simp only [Bool.false_and, Bool.and_false]
          go_enter Tryz.func132, Tryz.ntmps132
          go_wp2
          go_ret
          exact ⟨rfl, (Below.refl _ _).alloc (Nat.le_refl _) _⟩
        | true =>
          cases d5 : (b != 0) with
          | false =>
            simp only [Bool.and_false]
            go_enter Tryz.func132, Tryz.ntmps132
            go_wp2
            go_ret
            exact ⟨rfl, (Below.refl _ _).alloc (Nat.le_refl _) _⟩
          | true =>
            simp only [Bool.and_self]
            go_enter Tryz.func132, Tryz.ntmps132
            go_wp2
            go_ret
            exact ⟨rfl, (Below.refl _ _).alloc (Nat.le_refl _) _⟩
set_option maxRecDepth 100000 in
set_option maxHeartbeats 2000000 in
theorem coeff_seen (A : Option Addr) (n c : Nat) (l : List UInt8) (i : Nat) (w : World) (hA : Sl w A (l.map byteV)) (hn : l.length = n) (hsz : n ≤ 2 ^ 47) (hi : i ≤ 8 * n) :
    Calls Tryz.prog 177 #[.slice A n c, .int .i64 (i : Int)] w fun e w' => e = .returned (.string (bs (bitsL l i (min 20 (8 * n - i))))) ∧ Below w.heap.size w w' := by
  have HA := Lib.hid hA; have HN := Lib.hid hn
  clear hA hn
  go_enter Tryz.func177, Tryz.ntmps177
  go_wp2_with fail
  go_loopg [9] 20 (fun g v9 => fun wr => ∃ j : Nat, j + g = 20 ∧ v9 = .int .i64 (j : Int) ∧ (j = 0 ∨ i + j ≤ 8 * n) ∧ Hid (Lib.IsBuilder 123 5 w.heap.size w.heap.size ((bitsL l i j).map byteV) wr) ∧ Hid (Below w.heap.size w wr))
  case atStart => exact ⟨0, by omega, rfl, .inl rfl, Lib.hid (bld_new w), Lib.hid ((Below.refl _ _).alloc (Nat.le_refl _) _)⟩
  case round =>
    obtain ⟨j, hj, rfl, hin, HB, HBl⟩ := hrel
    have fin : ∀ (wr : World), Hid (Lib.IsBuilder 123 5 w.heap.size w.heap.size ((bitsL l i j).map byteV) wr) → Hid (Below w.heap.size w wr) → Calls Tryz.prog 98 #[.pointer (some ⟨w.heap.size, 0, none⟩)] wr fun e w' => e = .returned (.string (bs (bitsL l i j))) ∧ Below w.heap.size wr w' :=
      fun wr HB HBl => Tryz.Builder_String_any _ _ (bitsL l i j) _ HB.out HBl.out.size
    have FIN := Lib.hid fin
    clear fin
    cases gk with
    | zero =>
      obtain rfl : j = 20 := by omega
      have hlt : ¬ (((20 : Nat) : Int) < 20) := by omega
      have HMIN := Lib.hid (show min 20 (8 * n - i) = 20 by omega)
      go_wp2_with (go_at_call 98; refine (FIN.out _ HB HBl).mono ?_; rintro e w' ⟨rfl, hb1⟩; have HB1 := Lib.hid hb1; clear hb1)
      go_ret
      rw [HMIN.out]
      exact ⟨rfl, HBl.out.trans HB1.out⟩
    | succ g =>
      have hlt : ((j : Int) < 20) := by omega
      have hw0 : IntKind.i64.wrap ((i : Int) + (j : Int)) = (i : Int) + (j : Int) := by rw [IntKind.wrap_i64]; omega
      by_cases hmore : i + j < 8 * n
      · have Rd := Lib.hid (fun W h => bits_Read_v ((bitN l (i + j) : Nat) : Int) A n c l ((i : Int) + (j : Int)) 1 W (by rw [show ((i : Int) + (j : Int)).toNat = i + j by omega]; show ((numN l (i + j) 1 : Nat) : Int) = _; rw [numN_one]) h HN.out (by omega) (by decide) (by decide) (by omega) hsz)
        have HJ := Lib.hid hj
        have HM := Lib.hid hmore
        have Hs := Lib.hid (bitsL_succ l i j)
        have hb2 := bitN_lt l (i + j)
        have HL := Lib.hid (show ((bitsL l i j).map byteV).length + 1 ≤ 140737488355328 by rw [List.length_map, bitsL_length]; omega)
        obtain ⟨q, hq⟩ : ∃ q, bitN l (i + j) = q := ⟨_, rfl⟩
        have hbc : bitC l (i + j) = if q = 0 then 48 else 49 := by unfold bitC; rw [hq]
        rw [hq] at Rd hb2
        have HBC := Lib.hid hbc
        clear hj hmore hq hbc hin
        have hq01 : q = 0 ∨ q = 1 := by omega
        rcases hq01 with rfl | rfl
        · go_wp2_with (first
            | (go_at_call 110; refine (Rd.out _ (HA.out.below HBl.out)).mono ?_; rintro e w' ⟨rfl, rfl⟩)
            | (go_at_call 95; refine (bld_write w.heap.size w.heap.size _ 48 wr HB.out HL.out HBl.out.size).mono ?_; rintro e w1 ⟨rfl, hB1, hb1⟩; have HB1 := Lib.hid hB1; have Hb1 := Lib.hid hb1; clear hB1 hb1))
          go_roundg g
          case measure => omega
          case rel =>
            refine ⟨j + 1, by have := HJ.out; omega, rfl, .inr (by have := HM.out; omega), Lib.hid ?_, Lib.hid (HBl.out.trans Hb1.out)⟩
            rw [Hs.out, HBC.out, List.map_append]
            exact HB1.out
        · go_wp2_with (first
            | (go_at_call 110; refine (Rd.out _ (HA.out.below HBl.out)).mono ?_; rintro e w' ⟨rfl, rfl⟩)
            | (go_at_call 95; refine (bld_write w.heap.size w.heap.size _ 49 wr HB.out HL.out HBl.out.size).mono ?_; rintro e w1 ⟨rfl, hB1, hb1⟩; have HB1 := Lib.hid hB1; have Hb1 := Lib.hid hb1; clear hB1 hb1))
          go_roundg g
          case measure => omega
          case rel =>
            refine ⟨j + 1, by have := HJ.out; omega, rfl, .inr (by have := HM.out; omega), Lib.hid ?_, Lib.hid (HBl.out.trans Hb1.out)⟩
            rw [Hs.out, HBC.out, List.map_append]
            exact HB1.out
      · have Rd := Lib.hid (fun W => bits_Read_more A n c ((i : Int) + (j : Int)) 1 W (by omega) (by decide) (by decide) (by omega) hsz)
        have HMIN := Lib.hid (show min 20 (8 * n - i) = j by omega)
        clear hin hmore
        go_wp2_with (first
          | (go_at_call 110; refine (Rd.out _).mono ?_; rintro e w' ⟨rfl, rfl⟩)
          | (go_at_call 98; refine (FIN.out _ HB HBl).mono ?_; rintro e w' ⟨rfl, hb1⟩; have HB1 := Lib.hid hb1; clear hb1))
        go_ret
        rw [HMIN.out]
        exact ⟨rfl, HBl.out.trans HB1.out⟩
end Go.Proofs.YtcojnigkgbmbmaaGreatDoor
