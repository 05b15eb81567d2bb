/- Package address: Get, Put, Next, Row; what they answer. -/
import Derived.Test.YtedjplbiibflmaaDoorAddr
import Derived.WalkMore
import Derived.Deep.LoopGhost
namespace Go.Proofs.YtedjplbiibflmaaDoor
open Go Go.RowKit
def strV (c : List UInt8) : Value := .string (bs c)
def codesL : List (List UInt8) := [[48,48,48,48,48,48,48,49,49,49,49], [49], [48,49,49], [48,49,48], [48,48,49,49], [48,48,49,48], [48,48,48,49,49], [48,48,48,49,48], [48,48,48,48,49,49,49], [48,48,48,48,49,49,48],
  [48,48,48,48,49,48,49,49], [48,48,48,48,49,48,49,48], [48,48,48,48,49,48,48,49], [48,48,48,48,49,48,48,48], [48,48,48,48,48,49,49,49], [48,48,48,48,48,49,49,48],
  [48,48,48,48,48,49,48,49,49,49], [48,48,48,48,48,49,48,49,49,48], [48,48,48,48,48,49,48,49,48,49], [48,48,48,48,48,49,48,49,48,48], [48,48,48,48,48,49,48,48,49,49], [48,48,48,48,48,49,48,48,49,48],
  [48,48,48,48,48,49,48,48,48,49,49], [48,48,48,48,48,49,48,48,48,49,48], [48,48,48,48,48,49,48,48,48,48,49], [48,48,48,48,48,49,48,48,48,48,48], [48,48,48,48,48,48,49,49,49,49,49], [48,48,48,48,48,48,49,49,49,49,48],
  [48,48,48,48,48,48,49,49,49,48,49], [48,48,48,48,48,48,49,49,49,48,48], [48,48,48,48,48,48,49,49,48,49,49], [48,48,48,48,48,48,49,49,48,49,48], [48,48,48,48,48,48,49,49,48,48,49], [48,48,48,48,48,48,49,49,48,48,48]]
theorem codesV_eq : codesV = codesL.map strV := by kernel_rfl
theorem codesL_length : codesL.length = 34 := rfl
def putR (d : Int) : List UInt8 × Int := if d < 0 ∨ 34 ≤ d then ([], 3) else (codesL.getD d.toNat [], 0)
def nextR (a d : Int) : Int × Int := if a < 0 ∨ 33 < a ∨ d < 1 ∨ 33 < d then (0, 3) else if 33 < a + d then (0, 13) else (a + d, 0)
def rowR (a : Int) : Int × Int × Int := if a < 1 ∨ 33 < a then (0, 0, 3) else ((a - 1) / 11, (a - 1) % 11, 0)
set_option maxHeartbeats 400000 in
theorem address_Put (d : Int) (w : World) (hT : Tz w) (hd : -9223372036854775808 ≤ d ∧ d ≤ 9223372036854775807) :
    Calls Tryd.prog 15 #[.int .i64 d] w fun e w' => e = .returned (.tuple #[.string (bs (putR d).1), .int .i64 (putR d).2]) ∧ Below w.heap.size w w' := by
  have HT := Lib.hid hT; clear hT
  by_cases h0 : d < 0
  · have e0 : decide (d < 0) = true := by simpa using h0
    go_enter Tryd.func15, Tryd.ntmps15
    go_wp2_with fail
    go_ret2
    refine ⟨?_, Below.refl _ _⟩
    rw [putR, if_pos (.inl h0)]; rfl
  · have e0 : decide (d < 0) = false := by simpa using h0
    by_cases h1 : 34 ≤ d
    · go_enter Tryd.func15, Tryd.ntmps15
      go_wp2_with fail
      go_ret2
      refine ⟨?_, Below.refl _ _⟩
      rw [putR, if_pos (.inr h1)]; rfl
    · obtain ⟨k, rfl⟩ := Int.eq_ofNat_of_zero_le (by omega : 0 ≤ d)
      have hk : k < codesL.length := by rw [codesL_length]; omega
      have Hk := Lib.hid hk; clear hk
      have hput : putR (k : Int) = (codesL[k]'Hk.out, 0) := by
        rw [putR, if_neg (by omega)]; simp [List.getD, Hk.out]
      rw [hput]; clear hput
      go_enter Tryd.func15, Tryd.ntmps15
      go_wp2_with fail
      refine (address_codes _ HT.out).mono ?_
      rintro e w1 ⟨A, c, rfl, hS, hb⟩
      rw [codesV_eq] at hS
      obtain ⟨ad, rfl, _, hc⟩ := hS.at_ k (by simpa using Hk.out)
      rw [List.getElem_map] at hc
      unfold strV at hc
      go_wp2_with fail
      go_ret2
      exact ⟨rfl, hb⟩
theorem address_Next (a d : Int) (w : World) (ha : -9223372036854775808 ≤ a ∧ a ≤ 9223372036854775807) (hd : -9223372036854775808 ≤ d ∧ d ≤ 9223372036854775807) :
    Calls Tryd.prog 18 #[.int .i64 a, .int .i64 d] w fun e w' => e = .returned (.tuple #[.int .i64 (nextR a d).1, .int .i64 (nextR a d).2]) ∧ w = w' := by
  unfold nextR
  by_cases h1 : a < 0
  · have e1 : decide (a < 0) = true := by simpa using h1
    rw [if_pos (by omega)]
    go_enter Tryd.func18, Tryd.ntmps18
    go_wp2; go_ret2; exact ⟨rfl, rfl⟩
  have e1 : decide (a < 0) = false := by simpa using h1
  by_cases h2 : 33 < a
  · have e2 : decide (33 < a) = true := by simpa using h2
    rw [if_pos (by omega)]
    go_enter Tryd.func18, Tryd.ntmps18
    go_wp2; go_ret2; exact ⟨rfl, rfl⟩
  have e2 : decide (33 < a) = false := by simpa using h2
  by_cases h3 : d < 1
  · have e3 : decide (d < 1) = true := by simpa using h3
    rw [if_pos (by omega)]
    go_enter Tryd.func18, Tryd.ntmps18
    go_wp2; go_ret2; exact ⟨rfl, rfl⟩
  have e3 : decide (d < 1) = false := by simpa using h3
  by_cases h4 : 33 < d
  · have e4 : decide (33 < d) = true := by simpa using h4
    rw [if_pos (by omega)]
    go_enter Tryd.func18, Tryd.ntmps18
    go_wp2; go_ret2; exact ⟨rfl, rfl⟩
  have e4 : decide (33 < d) = false := by simpa using h4
  rw [if_neg (by omega)]
  by_cases h5 : 33 < a + d
  · rw [if_pos h5]
    go_enter Tryd.func18, Tryd.ntmps18
    go_wp2; go_ret2; exact ⟨rfl, rfl⟩
  · rw [if_neg h5]
    go_enter Tryd.func18, Tryd.ntmps18
    go_wp2; go_ret2; exact ⟨rfl, rfl⟩
theorem address_Row (a : Int) (w : World) (ha : -9223372036854775808 ≤ a ∧ a ≤ 9223372036854775807) :
    Calls Tryd.prog 20 #[.int .i64 a] w fun e w' => e = .returned (.tuple #[.int .i64 (rowR a).1, .int .i64 (rowR a).2.1, .int .i64 (rowR a).2.2]) ∧ w = w' := by
  unfold rowR
  by_cases h1 : a < 1
  · have e1 : decide (a < 1) = true := by simpa using h1
    rw [if_pos (by omega)]
    go_enter Tryd.func20, Tryd.ntmps20
    go_wp2; go_ret3; exact ⟨rfl, rfl⟩
  have e1 : decide (a < 1) = false := by simpa using h1
  by_cases h2 : 33 < a
  · have e2 : decide (33 < a) = true := by simpa using h2
    rw [if_pos (by omega)]
    go_enter Tryd.func20, Tryd.ntmps20
    go_wp2; go_ret3; exact ⟨rfl, rfl⟩
  have e2 : decide (33 < a) = false := by simpa using h2
  have h3 : 0 ≤ a - 1 := by omega
  rw [if_neg (by omega)]
  go_enter Tryd.func20, Tryd.ntmps20
  go_wp2; go_ret3; exact ⟨rfl, rfl⟩
end Go.Proofs.YtedjplbiibflmaaDoor
