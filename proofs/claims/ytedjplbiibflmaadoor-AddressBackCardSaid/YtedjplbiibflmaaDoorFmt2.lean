/- strconv.FormatInt at base 2, numbers from 1 on. The cell of the table that TrailingZeros reads is a premise. -/
import Derived.Test.YtedjplbiibflmaaDoorBase
namespace Go.Proofs.YtedjplbiibflmaaDoor
open Go Go.RowKit
theorem u64_and_1 (x : Nat) (hx : x < 18446744073709551616) : bits .and .u64 (x : Int) 1 = ((x % 2 : Nat) : Int) := by
  have := u64_and_nat x 1 hx (by decide)
  rw [Nat.and_one_is_mod] at this
  exact this
def binC (n j : Nat) : UInt8 := if n / 2 ^ j % 2 = 0 then 48 else 49
/-- the low j digits of n, the highest of them first -/
def binD (n : Nat) : Nat → List UInt8
  | 0 => []
  | j + 1 => binC n j :: binD n j
theorem binD_length (n j : Nat) : (binD n j).length = j := by induction j with | zero => rfl | succ j ih => simp [binD, ih]
/-- The cell that is read of the table. -/
def Tz (w : World) : Prop := w.cell? ⟨3, 1, none⟩ = some (.int .u8 1)
theorem Tz.belowB {w w' : World} {B : Nat} (h : Tz w) (hb : Below B w w') (hB : 3 < B) : Tz w' := (hb.cell (p := ⟨3, 1, none⟩) hB).trans h
theorem Tz.lt {w : World} (h : Tz w) : 3 < w.heap.size := by
  unfold Tz at h
  rcases Nat.lt_or_ge 3 w.heap.size with hlt | hge
  · exact hlt
  · simp [World.cell?, Array.getElem?_eq_none hge] at h
theorem Tz.below {w w' : World} (h : Tz w) (hb : Below w.heap.size w w') : Tz w' := by
  unfold Tz at *
  have hl : 3 < w.heap.size := by
    rcases Nat.lt_or_ge 3 w.heap.size with hlt | hge
    · exact hlt
    · simp [World.cell?, Array.getElem?_eq_none hge] at h
  rw [← h]
  exact hb.cell (p := ⟨3, 1, none⟩) hl
theorem tz64 (w : World) (h : Tz w) : Calls Tryd.prog 68 #[.int .u64 2] w fun e w' => e = .returned (.int .i64 1) ∧ w = w' := by
  unfold Tz at h
  have hq : bits BinOp.and IntKind.u64 2 (IntKind.u64.wrap (-2)) = 2 := by decide +kernel
  go_enter Tryd.func68, Tryd.ntmps68
  go_wp2
  go_ret
  exact ⟨rfl, rfl⟩
theorem isp2 (w : World) : Calls Tryd.prog 65 #[.int .i64 2] w fun e w' => e = .returned (.bool true) ∧ w = w' := by
  have h : bits BinOp.and IntKind.i64 2 1 = 0 := by decide +kernel
  go_enter Tryd.func65, Tryd.ntmps65
  go_wp2
  go_ret
  exact ⟨rfl, rfl⟩
theorem tz (w : World) (h : Tz w) : Calls Tryd.prog 66 #[.int .u64 2] w fun e w' => e = .returned (.int .i64 1) ∧ w = w' := by
  have H := Lib.hid h; clear h
  go_enter Tryd.func66, Tryd.ntmps66
  go_wp2_with (go_at_call 68; refine (tz64 _ H.out).mono ?_; rintro e w' ⟨rfl, rfl⟩)
  go_ret
  exact ⟨rfl, rfl⟩
theorem pow_div_ge (n k j : Nat) (hk : 2 ^ k ≤ n) (hj : j < k) : 2 ≤ n / 2 ^ j := by
  rw [Nat.le_div_iff_mul_le (Nat.two_pow_pos j)]
  have : 2 ^ (j + 1) ≤ 2 ^ k := Nat.pow_le_pow_right (by decide) hj
  rw [Nat.pow_succ] at this
  omega
theorem pow_div_one (n k : Nat) (hk : 2 ^ k ≤ n) (hk2 : n < 2 ^ (k + 1)) : n / 2 ^ k = 1 := by
  have h1 : 1 ≤ n / 2 ^ k := by rw [Nat.le_div_iff_mul_le (Nat.two_pow_pos k)]; omega
  have h2 : n / 2 ^ k < 2 := by rw [Nat.div_lt_iff_lt_mul (Nat.two_pow_pos k)]; rw [Nat.pow_succ] at hk2; omega
  omega
/-- what the buffer holds when j digits are there: from 65 - j on -/
def Dig (n : Nat) (cs : Array Value) (j : Nat) : Prop := cs.size = 65 ∧ cs.toList.drop (65 - j) = (binD n j).map byteV
theorem Dig.step {n j : Nat} {cs : Array Value} (h : Dig n cs j) (hj : j < 65) {v : Value} (hv : v = byteV (binC n j)) : Dig n (cs.setIfInBounds (64 - j) v) (j + 1) := by
  obtain ⟨h1, h2⟩ := h
  subst hv
  refine ⟨by simpa using h1, ?_⟩
  have e : 65 - (j + 1) = 64 - j := by omega
  have hl : 64 - j < (cs.toList.set (64 - j) (byteV (binC n j))).length := by simp; omega
  rw [e, Array.toList_setIfInBounds, List.drop_eq_getElem_cons hl, List.getElem_set_self, List.drop_set_of_lt (by omega), show 64 - j + 1 = 65 - j by omega, h2]
  rfl
set_option maxHeartbeats 1000000 in
set_option maxRecDepth 100000 in
theorem formatBits2 (n : Nat) (k : Nat) (hk : 2 ^ k ≤ n) (hk2 : n < 2 ^ (k + 1)) (hkk : k < 32) (w : World) (hT : Tz w) :
    Calls Tryd.prog 61 #[.slice none 0 0, .int .u64 n, .int .i64 2, .bool false, .bool false] w
      fun e w' => e = .returned (.tuple #[.slice none 0 0, .string (bs (binD n (k + 1)))]) ∧ Below w.heap.size w w' := by
  have hn32 : n < 2 ^ 32 := Nat.lt_of_lt_of_le hk2 (Nat.pow_le_pow_right (by decide) (by omega))
  go_enter Tryd.func61, Tryd.ntmps61
  go_wp2_with (first | (go_at_call 65; refine (isp2 _).mono ?_; rintro e w' ⟨rfl, rfl⟩) | (go_at_call 66; refine (tz _ (hT.below ((Below.refl _ _).alloc (Nat.le_refl _) _))).mono ?_; rintro e w' ⟨rfl, rfl⟩))
  go_loopw [1, 13] (fun u i wr => ∃ (j m q : Nat) (cs : Array Value), m + j = 65 ∧ j ≤ k ∧ Hid (q = n / 2 ^ j) ∧ u = .int .u64 (q : Int) ∧ i = .int .i64 (m : Int) ∧ Blk wr w.heap.size 94 cs ∧ Dig n cs j ∧ Below w.heap.size w wr) (fun u _ _ => (intOf u).toNat)
  case atStart => exact ⟨0, 65, n, _, by omega, by omega, Lib.hid (by simp), rfl, rfl, Blk.new _ _ _, ⟨by kernel_rfl, by kernel_rfl⟩, (Below.refl _ _).alloc (Nat.le_refl _) _⟩
  case round =>
    obtain ⟨j, m, q, cs, hm, hj, Hq, rfl, rfl, hblk, hdig, hbel⟩ := hrel
    have hq0 : q ≤ n := by rw [Hq.out]; exact Nat.div_le_self _ _
    obtain ⟨v0, hc64⟩ : ∃ v0, wr.cell? ⟨w.heap.size, m - 1, none⟩ = some v0 := ⟨cs[m - 1]'(by rw [hdig.1]; omega), by rw [hblk.cell]; simp⟩
    have hf64 := hblk.frozen (m - 1)
    have Hst : ∀ v, v = byteV (binC n j) → Blk (wr.setCell ⟨w.heap.size, m - 1, none⟩ v) w.heap.size 94 (cs.setIfInBounds (m - 1) v) ∧ Dig n (cs.setIfInBounds (m - 1) v) (j + 1) ∧ Below w.heap.size w (wr.setCell ⟨w.heap.size, m - 1, none⟩ v) := fun v hv => by
      refine ⟨hblk.set_ _ _, ?_, hbel.setCell (p := ⟨w.heap.size, m - 1, none⟩) (Nat.le_refl _) _⟩
      have h64 := hdig.step (by omega) hv
      rwa [show 64 - j = m - 1 by omega] at h64
    have Hst := Lib.hid Hst
    by_cases hlt : j < k
    · have hge : 2 ≤ q := by rw [Hq.out]; exact pow_div_ge n k j hk hlt
      have hand := u64_and_1 q (by omega)
      have hqq : q / 2 = n / 2 ^ (j + 1) := by rw [Hq.out, Nat.div_div_eq_div_mul, Nat.pow_succ]
      have Hqq := Lib.hid hqq
      clear hqq
      by_cases hz : q % 2 = 0
      · have hb : byteV (binC n j) = .int .u8 48 := by simp [binC, ← Hq.out, hz, byteV]
        have Hb := Lib.hid hb
        rw [hz] at hand
        clear hb hz
        go_wp2
        obtain ⟨h1, h2, h3⟩ := Hst.out _ Hb.out.symm
        exact ⟨⟨j + 1, m - 1, q / 2, _, by omega, by omega, Hqq, by simp, by congr 1; omega, h1, h2, h3⟩, by simp [intOf]; omega⟩
      · have hz1 : q % 2 = 1 := by omega
        have hb : byteV (binC n j) = .int .u8 49 := by simp [binC, ← Hq.out, hz, byteV]
        have Hb := Lib.hid hb
        rw [hz1] at hand
        clear hb hz hz1
        go_wp2
        obtain ⟨h1, h2, h3⟩ := Hst.out _ Hb.out.symm
        exact ⟨⟨j + 1, m - 1, q / 2, _, by omega, by omega, Hqq, by simp, by congr 1; omega, h1, h2, h3⟩, by simp [intOf]; omega⟩
    · obtain rfl : j = k := by omega
      obtain rfl : q = 1 := by rw [Hq.out]; exact pow_div_one n j hk hk2
      have hb : byteV (binC n j) = .int .u8 49 := by simp [binC, ← Hq.out, byteV]
      have Hb := Lib.hid hb
      clear hb
      have hsl := run_arr_from (P := Tryd.prog) 94 5 65 1 ⟨w.heap.size, 0, none⟩ (by kernel_rfl) (by kernel_rfl) ((m : Int) - 1) (m - 1) (by omega) (by omega)
      obtain ⟨h1, h2, h3⟩ := Hst.out _ Hb.out.symm
      have hdig : ({ data := #[48, 49, 50, 51, 52, 53, 54, 55, 56, 57, 97, 98, 99, 100, 101, 102, 103, 104, 105, 106, 107, 108, 109, 110, 111, 112, 113, 114, 115, 116, 117, 118, 119, 120, 121, 122] } : ByteArray)[1].toNat = 49 := by decide
      have hS := h1.sl (m - 1)
      rw [show (cs.setIfInBounds (m - 1) (.int .u8 49)).toList.drop (m - 1) = (binD n (j + 1)).map byteV by rw [show m - 1 = 65 - (j + 1) by omega]; rw [show m - 1 = 65 - (j + 1) by omega] at h2; exact h2.2] at hS
      have hcv := run_bytes_str (P := Tryd.prog) 22 9 5 (by kernel_rfl) (by kernel_rfl) (by kernel_rfl) hS (65 - (m - 1)) (65 - (m - 1)) (by rw [binD_length]; omega)
      go_wp2
      go_ret2
      exact ⟨rfl, h3⟩
theorem fmt2i (n : Nat) (k : Nat) (hk : 2 ^ k ≤ n) (hk2 : n < 2 ^ (k + 1)) (hkk : k < 32) (w : World) (hT : Tz w) :
    Calls Tryd.prog 57 #[.int .i64 n, .int .i64 2] w fun e w' => e = .returned (.string (bs (binD n (k + 1)))) ∧ Below w.heap.size w w' := by
  have HT := Lib.hid hT; clear hT
  have hn32 : n < 2 ^ 32 := Nat.lt_of_lt_of_le hk2 (Nat.pow_le_pow_right (by decide) (by omega))
  have h0 : decide ((n : Int) < 0) = false := by simp
  go_enter Tryd.func57, Tryd.ntmps57
  go_wp2_with (go_at_call 61; refine (formatBits2 n k hk hk2 hkk _ HT.out).mono ?_; rintro e w' ⟨rfl, hb⟩)
  go_ret
  exact ⟨rfl, hb⟩
theorem fmt2 (n : Int) (k : Nat) (hk : 2 ^ k ≤ n.toNat) (hk2 : n.toNat < 2 ^ (k + 1)) (hkk : k < 32) (w : World) (hT : Tz w) :
    Calls Tryd.prog 53 #[.int .i64 n, .int .i64 2] w fun e w' => e = .returned (.string (bs (binD n.toNat (k + 1)))) ∧ Below w.heap.size w w' := by
  have HT := Lib.hid hT; clear hT
  obtain ⟨n, rfl⟩ : ∃ m : Nat, n = m := ⟨n.toNat, by have := Nat.one_le_two_pow (n := k); omega⟩
  rw [Int.toNat_natCast] at hk hk2 ⊢
  go_enter Tryd.func53, Tryd.ntmps53
  go_wp2_with (go_at_call 57; refine (fmt2i n k hk hk2 hkk _ HT.out).mono ?_; rintro e w' ⟨rfl, hb⟩)
  go_ret
  exact ⟨rfl, hb⟩
end Go.Proofs.YtedjplbiibflmaaDoor
