/- Package bits: Count, bit, Read; the reference's Count, Read. -/
import Derived.Test.YtedjplbiibflmaaDoorBase
namespace Go.Proofs.YtedjplbiibflmaaDoor
open Go Go.RowKit
def bitN (l : List UInt8) (k : Nat) : Nat := (l.getD (k / 8) 0).toNat / 2 ^ (7 - k % 8) % 2
theorem bitN_lt (l : List UInt8) (k : Nat) : bitN l k < 2 := Nat.mod_lt _ (by decide)
def numN (l : List UInt8) (k : Nat) : Nat → Nat
  | 0 => 0
  | n + 1 => 2 * numN l k n + bitN l (k + n)
theorem numN_lt (l : List UInt8) (k n : Nat) : numN l k n < 2 ^ n := by
  induction n with
  | zero => simp [numN]
  | succ n ih => have := bitN_lt l (k + n); simp only [numN, Nat.pow_succ]; omega
theorem bits_bit (A : Option Addr) (n c : Nat) (l : List UInt8) (i : Int) (w : World) (hr : Sl w A (l.map byteV)) (hn : l.length = n) (h0 : 0 ≤ i) (h1 : i < 8 * n) :
   Calls Tryd.prog 48 #[.slice A n c, .int .i64 i] w fun e w' => e = .returned (.int .i64 (bitN l i.toNat)) ∧ w = w' := by
  obtain ⟨k, rfl⟩ := Int.eq_ofNat_of_zero_le h0
  subst hn
  obtain ⟨ad, rfl, _, hc⟩ := hr.byte (k / 8) (by omega)
  have hk : (0:Int) ≤ 7 - ↑k % 8 := by omega
  have hb : l[k / 8].toNat < 256 := UInt8.toNat_lt _
  have hb2 : l[k / 8].toNat / 2 ^ (7 - k % 8) < 256 := Nat.lt_of_le_of_lt (Nat.div_le_self _ _) hb
  have hlt : k / 8 < l.length := by omega
  have hfin : wrap64 (↑l[k / 8].toNat / 2 ^ (7 - k % 8)) % 2 = ((bitN l k : Nat) : Int) := by
    generalize hq : l[k / 8].toNat / 2 ^ (7 - k % 8) = q at hb2
    rw [show ((l[k / 8].toNat : Int) / 2 ^ (7 - k % 8)) = (q : Int) by rw [← hq]; simp, IntWalk.wrap64_in _ (by omega), ← hq]
    simp [bitN, List.getD, hlt]
  have Hf := Lib.hid hfin
  clear hfin hb hb2
  go_enter Tryd.func48, Tryd.ntmps48
  go_wp2
  go_ret
  rw [Hf.out, Int.toNat_natCast]
  exact ⟨rfl, rfl⟩
set_option maxHeartbeats 400000 in
theorem bits_Read (A : Option Addr) (n c : Nat) (l : List UInt8) (i m : Int) (w : World) (hr : Sl w A (l.map byteV)) (hn : l.length = n) (h0 : 0 ≤ i) (hm : 0 ≤ m) (hm2 : m ≤ 32) (h1 : i + m ≤ 8 * n) (hsz : n ≤ 2 ^ 47) :
   Calls Tryd.prog 35 #[.slice A n c, .int .i64 i, .int .i64 m] w fun e w' => e = .returned (.tuple #[.int .i64 (numN l i.toNat m.toNat), .int .i64 0]) ∧ w = w' := by
  obtain ⟨k, rfl⟩ := Int.eq_ofNat_of_zero_le h0
  obtain ⟨m, rfl⟩ := Int.eq_ofNat_of_zero_le hm
  have e1 : decide ((k:Int) < 0) = false := by simp
  have e2 : decide ((m:Int) < 0) = false := by simp
  have e3 : ¬ (32 : Int) < m := by omega
  have e4 : ¬ (8 * (n : Int)) < k := by omega
  have e5 : ¬ (8 * (n : Int)) - k < m := by omega
  go_enter Tryd.func35, Tryd.ntmps35
  go_wp2
  go_loop [1, 2, 8] (fun i n x => ∃ j : Nat, j ≤ m ∧ i = .int .i64 ((k + j : Nat) : Int) ∧ n = .int .i64 ((m - j : Nat) : Int) ∧ x = .int .i64 (numN l k j)) (fun _ n _ => (intOf n).toNat)
  case atStart => exact ⟨0, by omega, rfl, rfl, rfl⟩
  case round =>
    obtain ⟨j, hj, rfl, rfl, rfl⟩ := hrel
    by_cases hlt : j < m
    · have hb := bitN_lt l (k + j)
      have hx := numN_lt l k j
      have hx2 : numN l k j < 2 ^ 32 := Nat.lt_of_lt_of_le hx (Nat.pow_le_pow_right (by decide) (by omega))
      have hp : (0 : Int) < ((m - j : Nat) : Int) := by omega
      have Ho := Lib.hid (i64_shl_or (numN l k j) (bitN l (k + j)) (by omega) hb)
      clear hx
      have hz : (0:Int) ≤ ((k+j : Nat) : Int) := by omega
      go_wp2_with (go_at_call 48; refine (bits_bit _ _ _ l _ _ hr hn (by omega) (by omega)).mono ?_; rintro e w' ⟨rfl, rfl⟩)
      refine ⟨⟨j + 1, by omega, by congr 1, by congr 1; omega, ?_⟩, ?_⟩
      · have h2 := Ho.out; exact congrArg (Value.int .i64) h2
      · simp [intOf]; omega
    · have hp : ¬ (0 : Int) < ((m - j : Nat) : Int) := by omega
      obtain rfl : j = m := by omega
      go_wp2
      go_ret2
      exact ⟨by simp, rfl⟩
theorem bits_Read_v (v : Int) (A : Option Addr) (n c : Nat) (l : List UInt8) (i m : Int) (w : World) (hv : (numN l i.toNat m.toNat : Int) = v) (hr : Sl w A (l.map byteV)) (hn : l.length = n) (h0 : 0 ≤ i) (hm : 0 ≤ m) (hm2 : m ≤ 32) (h1 : i + m ≤ 8 * n) (hsz : n ≤ 2 ^ 47) :
   Calls Tryd.prog 35 #[.slice A n c, .int .i64 i, .int .i64 m] w fun e w' => e = .returned (.tuple #[.int .i64 v, .int .i64 0]) ∧ w = w' := by
  rw [← hv]; exact bits_Read A n c l i m w hr hn h0 hm hm2 h1 hsz
theorem bits_Read_more (A : Option Addr) (n c : Nat) (i m : Int) (w : World) (h0 : 0 ≤ i) (hm : 0 ≤ m) (hm2 : m ≤ 32) (h1 : 8 * n < i + m) (hsz : n ≤ 2 ^ 47) :
   Calls Tryd.prog 35 #[.slice A n c, .int .i64 i, .int .i64 m] w fun e w' => e = .returned (.tuple #[.int .i64 0, .int .i64 5]) ∧ w = w' := by
  have e1 : decide (i < 0) = false := by simpa using h0
  have e2 : decide (m < 0) = false := by simpa using hm
  have e3 : ¬ (32 : Int) < m := by omega
  by_cases e4 : (8 * (n : Int)) < i
  · go_enter Tryd.func35, Tryd.ntmps35
    go_wp2
    go_ret2
    exact ⟨rfl, rfl⟩
  · have e5 : (8 * (n : Int)) - i < m := by omega
    go_enter Tryd.func35, Tryd.ntmps35
    go_wp2
    go_ret2
    exact ⟨rfl, rfl⟩
theorem bits_Count (A : Option Addr) (n c : Nat) (w : World) (hsz : n ≤ 2 ^ 47) :
   Calls Tryd.prog 25 #[.slice A n c] w fun e w' => e = .returned (.int .i64 (8 * n)) ∧ w = w' := by
  go_enter Tryd.func25, Tryd.ntmps25
  go_wp2
  go_ret
  exact ⟨rfl, rfl⟩
end Go.Proofs.YtedjplbiibflmaaDoor
