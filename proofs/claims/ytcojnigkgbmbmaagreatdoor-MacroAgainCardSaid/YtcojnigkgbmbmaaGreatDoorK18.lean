/- PatC -/
import Derived.Test.YtcojnigkgbmbmaaGreatDoorK02
import Derived.Test.YtcojnigkgbmbmaaGreatDoorK15
namespace Go.Proofs.YtcojnigkgbmbmaaGreatDoor
open Go Go.RowKit
def hasB (p : Int) (k : Nat) : Bool := decide (1 ≤ p) && decide (p ≤ 63) && (p.toNat / 2 ^ (6 - k) % 2 == 1)
theorem and_bit : ∀ n : Nat, n < 64 → (bits .and .i64 (n : Int) 32 = if n / 32 % 2 = 1 then 32 else 0) ∧ (bits .and .i64 (n : Int) 16 = if n / 16 % 2 = 1 then 16 else 0) ∧ (bits .and .i64 (n : Int) 8 = if n / 8 % 2 = 1 then 8 else 0) ∧
    (bits .and .i64 (n : Int) 4 = if n / 4 % 2 = 1 then 4 else 0) ∧ (bits .and .i64 (n : Int) 2 = if n / 2 % 2 = 1 then 2 else 0) ∧ (bits .and .i64 (n : Int) 1 = if n / 1 % 2 = 1 then 1 else 0) := by decide +kernel
def cntJ (p : Int) : Nat → Nat
  | 0 => 0
  | j + 1 => cntJ p j + (if hasB p (j + 1) then 1 else 0)
theorem cntJ_6 (p : Int) : cntJ p 6 = cntP p := by
  unfold cntP
  by_cases h : 1 ≤ p ∧ p ≤ 63
  · rw [if_pos h]
    simp only [cntJ, hasB, decide_eq_true h.1, decide_eq_true h.2, Bool.true_and, Nat.reduceSub, Nat.reducePow, Nat.reduceAdd, beq_iff_eq, Nat.div_one]
    have e : ∀ q : Nat, (if q % 2 = 1 then 1 else 0) = q % 2 := fun q => by split <;> omega
    simp only [e]
    omega
  · rw [if_neg h]
    have e : ∀ k, hasB p k = false := fun k => by
      unfold hasB
      by_cases h1 : 1 ≤ p
      · rw [decide_eq_false (show ¬ p ≤ 63 by omega)]; simp
      · rw [decide_eq_false h1]; simp
    simp [cntJ, e]
theorem pattern_Has1 (p : Int) (w : World) : Calls Tryz.prog 104 #[.int .i64 p, .int .i64 1] w fun e w' => e = .returned (.bool (hasB p 1)) ∧ Below w.heap.size w w' := by
  unfold hasB
  by_cases h1 : 1 ≤ p
  · have d1 : decide (1 ≤ p) = true := decide_eq_true h1
    by_cases h2 : p ≤ 63
    · have d2 : decide (p ≤ 63) = true := decide_eq_true h2
      obtain ⟨n, rfl⟩ := Int.eq_ofNat_of_zero_le (by omega : 0 ≤ p)
      have hb := (and_bit n (by omega)).1
      rw [d1, d2, Int.toNat_natCast, show 2 ^ (6 - 1) = 32 by rfl]
      by_cases hq : n / 32 % 2 = 1
      · rw [if_pos hq] at hb
        have HQ := Lib.hid hq
        clear hq h1 h2
        go_enter Tryz.func104, Tryz.ntmps104
        go_wp2
        go_ret
        rw [HQ.out]
        exact ⟨rfl, (Below.refl _ _).alloc (Nat.le_refl _) _⟩
      · rw [if_neg hq] at hb
        have HQ := Lib.hid (show (n / 32 % 2 == 1) = false by simpa using hq)
        clear hq h1 h2
        go_enter Tryz.func104, Tryz.ntmps104
        go_wp2
        go_ret
        rw [HQ.out]
        exact ⟨rfl, (Below.refl _ _).alloc (Nat.le_refl _) _⟩
    · have d2 : decide (p ≤ 63) = false := decide_eq_false h2
      rw [d1, d2]
      clear h1 h2
      go_enter Tryz.func104, Tryz.ntmps104
      go_wp2
      go_ret
      exact ⟨rfl, (Below.refl _ _).alloc (Nat.le_refl _) _⟩
  · have d1 : decide (1 ≤ p) = false := decide_eq_false h1
    rw [d1]
    clear h1
    go_enter Tryz.func104, Tryz.ntmps104
    go_wp2
    go_ret
    exact ⟨rfl, (Below.refl _ _).alloc (Nat.le_refl _) _⟩
theorem pattern_Has2 (p : Int) (w : World) : Calls Tryz.prog 104 #[.int .i64 p, .int .i64 2] w fun e w' => e = .returned (.bool (hasB p 2)) ∧ Below w.heap.size w w' := by
  unfold hasB
  by_cases h1 : 1 ≤ p
  · have d1 : decide (1 ≤ p) = true := decide_eq_true h1
    by_cases h2 : p ≤ 63
    · have d2 : decide (p ≤ 63) = true := decide_eq_true h2
      obtain ⟨n, rfl⟩ := Int.eq_ofNat_of_zero_le (by omega : 0 ≤ p)
      have hb := (and_bit n (by omega)).2.1
      rw [d1, d2, Int.toNat_natCast, show 2 ^ (6 - 2) = 16 by rfl]
      by_cases hq : n / 16 % 2 = 1
      · rw [if_pos hq] at hb
        have HQ := Lib.hid hq
        clear hq h1 h2
        go_enter Tryz.func104, Tryz.ntmps104
        go_wp2
        go_ret
        rw [HQ.out]
        exact ⟨rfl, (Below.refl _ _).alloc (Nat.le_refl _) _⟩
      · rw [if_neg hq] at hb
        have HQ := Lib.hid (show (n / 16 % 2 == 1) = false by simpa using hq)
        clear hq h1 h2
        go_enter Tryz.func104, Tryz.ntmps104
        go_wp2
        go_ret
        rw [HQ.out]
        exact ⟨rfl, (Below.refl _ _).alloc (Nat.le_refl _) _⟩
    · have d2 : decide (p ≤ 63) = false := decide_eq_false h2
      rw [d1, d2]
      clear h1 h2
      go_enter Tryz.func104, Tryz.ntmps104
      go_wp2
      go_ret
      exact ⟨rfl, (Below.refl _ _).alloc (Nat.le_refl _) _⟩
  · have d1 : decide (1 ≤ p) = false := decide_eq_false h1
    rw [d1]
    clear h1
    go_enter Tryz.func104, Tryz.ntmps104
    go_wp2
    go_ret
    exact ⟨rfl, (Below.refl _ _).alloc (Nat.le_refl _) _⟩
theorem pattern_Has3 (p : Int) (w : World) : Calls Tryz.prog 104 #[.int .i64 p, .int .i64 3] w fun e w' => e = .returned (.bool (hasB p 3)) ∧ Below w.heap.size w w' := by
  unfold hasB
  by_cases h1 : 1 ≤ p
  · have d1 : decide (1 ≤ p) = true := decide_eq_true h1
    by_cases h2 : p ≤ 63
    · have d2 : decide (p ≤ 63) = true := decide_eq_true h2
      obtain ⟨n, rfl⟩ := Int.eq_ofNat_of_zero_le (by omega : 0 ≤ p)
      have hb := (and_bit n (by omega)).2.2.1
      rw [d1, d2, Int.toNat_natCast, show 2 ^ (6 - 3) = 8 by rfl]
      by_cases hq : n / 8 % 2 = 1
      · rw [if_pos hq] at hb
        have HQ := Lib.hid hq
        clear hq h1 h2
        go_enter Tryz.func104, Tryz.ntmps104
        go_wp2
        go_ret
        rw [HQ.out]
        exact ⟨rfl, (Below.refl _ _).alloc (Nat.le_refl _) _⟩
      · rw [if_neg hq] at hb
        have HQ := Lib.hid (show (n / 8 % 2 == 1) = false by simpa using hq)
        clear hq h1 h2
        go_enter Tryz.func104, Tryz.ntmps104
        go_wp2
        go_ret
        rw [HQ.out]
        exact ⟨rfl, (Below.refl _ _).alloc (Nat.le_refl _) _⟩
    · have d2 : decide (p ≤ 63) = false := decide_eq_false h2
      rw [d1, d2]
      clear h1 h2
      go_enter Tryz.func104, Tryz.ntmps104
      go_wp2
      go_ret
      exact ⟨rfl, (Below.refl _ _).alloc (Nat.le_refl _) _⟩
  · have d1 : decide (1 ≤ p) = false := decide_eq_false h1
    rw [d1]
    clear h1
    go_enter Tryz.func104, Tryz.ntmps104
    go_wp2
    go_ret
    exact ⟨rfl, (Below.refl _ _).alloc (Nat.le_refl _) _⟩
theorem pattern_Has4 (p : Int) (w : World) : Calls Tryz.prog 104 #[.int .i64 p, .int .i64 4] w fun e w' => e = .returned (.bool (hasB p 4)) ∧ Below w.heap.size w w' := by
  unfold hasB
  by_cases h1 : 1 ≤ p
  · have d1 : decide (1 ≤ p) = true := decide_eq_true h1
    by_cases h2 : p ≤ 63
    · have d2 : decide (p ≤ 63) = true := decide_eq_true h2
      obtain ⟨n, rfl⟩ := Int.eq_ofNat_of_zero_le (by omega : 0 ≤ p)
      have hb := (and_bit n (by omega)).2.2.2.1
      rw [d1, d2, Int.toNat_natCast, show 2 ^ (6 - 4) = 4 by rfl]
      by_cases hq : n / 4 % 2 = 1
      · rw [if_pos hq] at hb
        have HQ := Lib.hid hq
        clear hq h1 h2
        go_enter Tryz.func104, Tryz.ntmps104
        go_wp2
        go_ret
        rw [HQ.out]
        exact ⟨rfl, (Below.refl _ _).alloc (Nat.le_refl _) _⟩
      · rw [if_neg hq] at hb
        have HQ := Lib.hid (show (n / 4 % 2 == 1) = false by simpa using hq)
        clear hq h1 h2
        go_enter Tryz.func104, Tryz.ntmps104
        go_wp2
        go_ret
        rw [HQ.out]
        exact ⟨rfl, (Below.refl _ _).alloc (Nat.le_refl _) _⟩
    · have d2 : decide (p ≤ 63) = false := decide_eq_false h2
      rw [d1, d2]
      clear h1 h2
      go_enter Tryz.func104, Tryz.ntmps104
      go_wp2
      go_ret
      exact ⟨rfl, (Below.refl _ _).alloc (Nat.le_refl _) _⟩
  · have d1 : decide (1 ≤ p) = false := decide_eq_false h1
    rw [d1]
    clear h1
    go_enter Tryz.func104, Tryz.ntmps104
    go_wp2
    go_ret
    exact ⟨rfl, (Below.refl _ _).alloc (Nat.le_refl _) _⟩
theorem pattern_Has5 (p : Int) (w : World) : Calls Tryz.prog 104 #[.int .i64 p, .int .i64 5] w fun e w' => e = .returned (.bool (hasB p 5)) ∧ Below w.heap.size w w' := by
  unfold hasB
  by_cases h1 : 1 ≤ p
  · have d1 : decide (1 ≤ p) = true := decide_eq_true h1
    by_cases h2 : p ≤ 63
    · have d2 : decide (p ≤ 63) = true := decide_eq_true h2
      obtain ⟨n, rfl⟩ := Int.eq_ofNat_of_zero_le (by omega : 0 ≤ p)
      have hb := (and_bit n (by omega)).2.2.2.2.1
      rw [d1, d2, Int.toNat_natCast, show 2 ^ (6 - 5) = 2 by rfl]
      by_cases hq : n / 2 % 2 = 1
      · rw [if_pos hq] at hb
        have HQ := Lib.hid hq
        clear hq h1 h2
        go_enter Tryz.func104, Tryz.ntmps104
        go_wp2
        go_ret
        rw [HQ.out]
        exact ⟨rfl, (Below.refl _ _).alloc (Nat.le_refl _) _⟩
      · rw [if_neg hq] at hb
        have HQ := Lib.hid (show (n / 2 % 2 == 1) = false by simpa using hq)
        clear hq h1 h2
        go_enter Tryz.func104, Tryz.ntmps104
        go_wp2
        go_ret
        rw [HQ.out]
        exact ⟨rfl, (Below.refl _ _).alloc (Nat.le_refl _) _⟩
    · have d2 : decide (p ≤ 63) = false := decide_eq_false h2
      rw [d1, d2]
      clear h1 h2
      go_enter Tryz.func104, Tryz.ntmps104
      go_wp2
      go_ret
      exact ⟨rfl, (Below.refl _ _).alloc (Nat.le_refl _) _⟩
  · have d1 : decide (1 ≤ p) = false := decide_eq_false h1
    rw [d1]
    clear h1
    go_enter Tryz.func104, Tryz.ntmps104
    go_wp2
    go_ret
    exact ⟨rfl, (Below.refl _ _).alloc (Nat.le_refl _) _⟩
theorem pattern_Has6 (p : Int) (w : World) : Calls Tryz.prog 104 #[.int .i64 p, .int .i64 6] w fun e w' => e = .returned (.bool (hasB p 6)) ∧ Below w.heap.size w w' := by
  unfold hasB
  by_cases h1 : 1 ≤ p
  · have d1 : decide (1 ≤ p) = true := decide_eq_true h1
    by_cases h2 : p ≤ 63
    · have d2 : decide (p ≤ 63) = true := decide_eq_true h2
      obtain ⟨n, rfl⟩ := Int.eq_ofNat_of_zero_le (by omega : 0 ≤ p)
      have hb := (and_bit n (by omega)).2.2.2.2.2
      rw [d1, d2, Int.toNat_natCast, show 2 ^ (6 - 6) = 1 by rfl]
      by_cases hq : n / 1 % 2 = 1
      · rw [if_pos hq] at hb
        have HQ := Lib.hid hq
        clear hq h1 h2
        go_enter Tryz.func104, Tryz.ntmps104
        go_wp2
        go_ret
        rw [HQ.out]
        exact ⟨rfl, (Below.refl _ _).alloc (Nat.le_refl _) _⟩
      · rw [if_neg hq] at hb
        have HQ := Lib.hid (show (n / 1 % 2 == 1) = false by simpa using hq)
        clear hq h1 h2
        go_enter Tryz.func104, Tryz.ntmps104
        go_wp2
        go_ret
        rw [HQ.out]
        exact ⟨rfl, (Below.refl _ _).alloc (Nat.le_refl _) _⟩
    · have d2 : decide (p ≤ 63) = false := decide_eq_false h2
      rw [d1, d2]
      clear h1 h2
      go_enter Tryz.func104, Tryz.ntmps104
      go_wp2
      go_ret
      exact ⟨rfl, (Below.refl _ _).alloc (Nat.le_refl _) _⟩
  · have d1 : decide (1 ≤ p) = false := decide_eq_false h1
    rw [d1]
    clear h1
    go_enter Tryz.func104, Tryz.ntmps104
    go_wp2
    go_ret
    exact ⟨rfl, (Below.refl _ _).alloc (Nat.le_refl _) _⟩
theorem pattern_Has (p : Int) (j : Nat) (hj : j < 6) (w : World) : Calls Tryz.prog 104 #[.int .i64 p, .int .i64 ((j : Int) + 1)] w fun e w' => e = .returned (.bool (hasB p (j + 1))) ∧ Below w.heap.size w w' := by
  have h : j = 0 ∨ j = 1 ∨ j = 2 ∨ j = 3 ∨ j = 4 ∨ j = 5 := by omega
  rcases h with rfl | rfl | rfl | rfl | rfl | rfl
  · exact pattern_Has1 p w
  · exact pattern_Has2 p w
  · exact pattern_Has3 p w
  · exact pattern_Has4 p w
  · exact pattern_Has5 p w
  · exact pattern_Has6 p w
theorem pattern_Count (p : Int) (w : World) : Calls Tryz.prog 60 #[.int .i64 p] w fun e w' => e = .returned (.int .i64 (cntP p : Nat)) ∧ Below w.heap.size w w' := by
  rw [← cntJ_6]
  go_enter Tryz.func60, Tryz.ntmps60
  go_wp2_with fail
  go_loopg [2, 4] 6 (fun g v2 v4 => fun wr => ∃ j : Nat, j + g = 6 ∧ v2 = .int .i64 (cntJ p j : Nat) ∧ v4 = .int .i64 (j : Int) ∧ cntJ p j ≤ j ∧ Below w.heap.size w wr)
  case atStart => exact ⟨0, by omega, rfl, rfl, by simp [cntJ], Below.refl _ _⟩
  case round =>
    obtain ⟨j, hj, rfl, rfl, hle, hb⟩ := hrel
    cases gk with
    | zero =>
      obtain rfl : j = 6 := by omega
      have hlt : ¬ (((6 : Nat) : Int) < 6) := by omega
      go_wp2_with fail
      go_ret
      exact ⟨rfl, hb⟩
    | succ g =>
      have hlt : ((j : Int) < 6) := by omega
      have hj6 : j < 6 := by omega
      have CH := Lib.hid (pattern_Has p j hj6 wr)
      have hs : cntJ p (j + 1) = cntJ p j + (if hasB p (j + 1) then 1 else 0) := rfl
      have HB := Lib.hid hb
      obtain ⟨q, hq⟩ : ∃ q, cntJ p j = q := ⟨_, rfl⟩
      rw [hq] at hs hle ⊢
      clear hb hq
      by_cases hh : hasB p (j + 1) = true
      · rw [hh] at CH hs
        have HSS := Lib.hid hs
        clear hs hh
        go_wp2_with (go_at_call 104; refine CH.out.mono ?_; rintro e w2 ⟨rfl, hb2⟩; have HB2 := Lib.hid hb2; clear hb2)
        go_roundg g
        case measure => omega
        case rel => exact ⟨j + 1, by omega, by rw [HSS.out]; simp, by simp, by rw [HSS.out]; simp; omega, HB.out.trans (HB2.out.mono HB.out.size)⟩
      · have hh : hasB p (j + 1) = false := by simpa using hh
        rw [hh] at CH hs
        have HSS := Lib.hid hs
        clear hs hh
        go_wp2_with (go_at_call 104; refine CH.out.mono ?_; rintro e w2 ⟨rfl, hb2⟩; have HB2 := Lib.hid hb2; clear hb2)
        go_roundg g
        case measure => omega
        case rel => exact ⟨j + 1, by omega, by rw [HSS.out]; simp, by simp, by rw [HSS.out]; simp; omega, HB.out.trans (HB2.out.mono HB.out.size)⟩
end Go.Proofs.YtcojnigkgbmbmaaGreatDoor
