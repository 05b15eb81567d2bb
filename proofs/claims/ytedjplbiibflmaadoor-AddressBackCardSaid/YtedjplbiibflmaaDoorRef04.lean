/- The reference of layer 4: Codes, Put, Next, Row. -/
import Derived.Test.YtedjplbiibflmaaDoorAddrP
import Derived.Test.YtedjplbiibflmaaDoorApp
namespace Go.Proofs.YtedjplbiibflmaaDoor
open Go Go.RowKit
def codes35 : List (List UInt8) := codesL ++ [List.replicate 15 48]
set_option maxRecDepth 100000 in
theorem ref04_Codes (w : World) : Calls Tryd.prog 31 #[] w fun e w' => ∃ A, e = .returned (.slice A 35 35) ∧ Sl w' A (codes35.map strV) ∧ Below w.heap.size w w' := by
  go_enter Tryd.func31, Tryd.ntmps31
  go_wp2_with fail
  go_ret
  exact ⟨_, rfl, Blk.sl (Blk.new w 9 (codes35.map strV).toArray) 0, (Below.refl _ _).alloc (Nat.le_refl _) _⟩
set_option maxHeartbeats 400000 in
theorem ref04_Put (d : Int) (w : World) (hd : -9223372036854775808 ≤ d ∧ d ≤ 9223372036854775807) :
    Calls Tryd.prog 17 #[.int .i64 d] w fun e w' => e = .returned (.tuple #[.string (bs (putR d).1), .int .i64 (putR d).2]) ∧ Below w.heap.size w w' := by
  by_cases h0 : d < 0
  · have e0 : decide (d < 0) = true := by simpa using h0
    go_enter Tryd.func17, Tryd.ntmps17
    go_wp2_with fail
    go_ret2
    refine ⟨?_, Below.refl _ _⟩
    rw [putR, if_pos (.inl h0)]; rfl
  · have e0 : decide (d < 0) = false := by simpa using h0
    by_cases h1 : 33 < d
    · go_enter Tryd.func17, Tryd.ntmps17
      go_wp2_with fail
      go_ret2
      refine ⟨?_, Below.refl _ _⟩
      rw [putR, if_pos (.inr (by omega))]; rfl
    · obtain ⟨k, rfl⟩ := Int.eq_ofNat_of_zero_le (by omega : 0 ≤ d)
      have hk : k < codesL.length := by rw [codesL_length]; omega
      have Hk := Lib.hid hk; clear hk
      have hput : putR (k : Int) = (codesL[k]'Hk.out, 0) := by
        rw [putR, if_neg (by omega)]; simp [List.getD, Hk.out]
      rw [hput]; clear hput
      go_enter Tryd.func17, Tryd.ntmps17
      go_wp2_with fail
      refine (ref04_Codes w).mono ?_
      rintro e w1 ⟨A, rfl, hS, hb⟩
      obtain ⟨ad, rfl, _, hc⟩ := hS.at_ k (by rw [List.length_map]; have := Hk.out; simp [codes35]; omega)
      rw [List.getElem_map, show codes35[k]'(by have := Hk.out; simp [codes35]; omega) = codesL[k]'Hk.out from List.getElem_append_left Hk.out] at hc
      unfold strV at hc
      go_wp2_with fail
      go_ret2
      exact ⟨rfl, hb⟩
theorem ref04_Next (a d : Int) (w : World) (ha : -9223372036854775808 ≤ a ∧ a ≤ 9223372036854775807) (hd : -9223372036854775808 ≤ d ∧ d ≤ 9223372036854775807) :
    Calls Tryd.prog 19 #[.int .i64 a, .int .i64 d] w fun e w' => e = .returned (.tuple #[.int .i64 (nextR a d).1, .int .i64 (nextR a d).2]) ∧ w = w' := by
  unfold nextR
  by_cases h1 : a < 0
  · have e1 : decide (a < 0) = true := by simpa using h1
    rw [if_pos (by omega)]
    go_enter Tryd.func19, Tryd.ntmps19
    go_wp2; go_ret2; exact ⟨rfl, rfl⟩
  have e1 : decide (a < 0) = false := by simpa using h1
  by_cases h2 : 33 < a
  · have e2 : decide (33 < a) = true := by simpa using h2
    rw [if_pos (by omega)]
    go_enter Tryd.func19, Tryd.ntmps19
    go_wp2; go_ret2; exact ⟨rfl, rfl⟩
  have e2 : decide (33 < a) = false := by simpa using h2
  by_cases h3 : d < 1
  · have e3 : decide (d < 1) = true := by simpa using h3
    rw [if_pos (by omega)]
    go_enter Tryd.func19, Tryd.ntmps19
    go_wp2; go_ret2; exact ⟨rfl, rfl⟩
  have e3 : decide (d < 1) = false := by simpa using h3
  by_cases h4 : 33 < d
  · have e4 : decide (33 < d) = true := by simpa using h4
    rw [if_pos (by omega)]
    go_enter Tryd.func19, Tryd.ntmps19
    go_wp2; go_ret2; exact ⟨rfl, rfl⟩
  have e4 : decide (33 < d) = false := by simpa using h4
  rw [if_neg (by omega)]
  by_cases h5 : 33 < a + d
  · rw [if_pos h5]
    go_enter Tryd.func19, Tryd.ntmps19
    go_wp2; go_ret2; exact ⟨rfl, rfl⟩
  · rw [if_neg h5]
    go_enter Tryd.func19, Tryd.ntmps19
    go_wp2; go_ret2; exact ⟨rfl, rfl⟩
theorem ref04_Row (a : Int) (w : World) (ha : -9223372036854775808 ≤ a ∧ a ≤ 9223372036854775807) :
    Calls Tryd.prog 21 #[.int .i64 a] w fun e w' => e = .returned (.tuple #[.int .i64 (rowR a).1, .int .i64 (rowR a).2.1, .int .i64 (rowR a).2.2]) ∧ w = w' := by
  unfold rowR
  by_cases h1 : a < 1
  · have e1 : decide (a < 1) = true := by simpa using h1
    rw [if_pos (by omega)]
    go_enter Tryd.func21, Tryd.ntmps21
    go_wp2; go_ret3; exact ⟨rfl, rfl⟩
  have e1 : decide (a < 1) = false := by simpa using h1
  by_cases h2 : 33 < a
  · have e2 : decide (33 < a) = true := by simpa using h2
    rw [if_pos (by omega)]
    go_enter Tryd.func21, Tryd.ntmps21
    go_wp2; go_ret3; exact ⟨rfl, rfl⟩
  have e2 : decide (33 < a) = false := by simpa using h2
  have h3 : 0 ≤ a - 1 := by omega
  rw [if_neg (by omega)]
  go_enter Tryd.func21, Tryd.ntmps21
  go_wp2; go_ret3; exact ⟨rfl, rfl⟩
end Go.Proofs.YtedjplbiibflmaaDoor
