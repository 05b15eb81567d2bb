/- The kit's Bits: bytes of bits. -/
import Derived.Test.YtedjplbiibflmaaDoorKit
import Derived.Laws.MakeOwn
namespace Go.Proofs.YtedjplbiibflmaaDoor
open Go Go.RowKit
/-- the first j bits of B are those of l, the rest noughts -/
def BitsAre (l : List Int) (j : Nat) (B : List UInt8) : Prop := ∀ k, k < 8 * B.length → bitN B k = if k < j then (l.getD k 0 % 2).toNat else 0
theorem bitN_test (l : List UInt8) (k : Nat) : bitN l k = ((l.getD (k / 8) 0).toNat.testBit (7 - k % 8)).toNat := by
  unfold bitN
  rw [Nat.testBit, Nat.shiftRight_eq_div_pow]
  rw [Nat.one_and_eq_mod_two]
  generalize (l.getD (k / 8) 0).toNat / 2 ^ (7 - k % 8) = x
  rcases Nat.mod_two_eq_zero_or_one x with h | h <;> rw [h] <;> rfl
theorem bits_set (l : List Int) (j : Nat) (B : List UInt8) (h : BitsAre l j B) (hj : j < 8 * B.length) (hodd : l.getD j 0 % 2 ≠ 0) (b : UInt8) (hb : b.toNat = (B.getD (j / 8) 0).toNat ||| 2 ^ (7 - j % 8)) :
    BitsAre l (j + 1) (B.set (j / 8) b) := by
  intro k hk
  rw [List.length_set] at hk
  have h0 := h k hk
  have hj0 := h j hj
  rw [if_neg (by omega)] at hj0
  rw [bitN_test] at h0 hj0 ⊢
  by_cases hq : k / 8 = j / 8
  · have hg : (B.set (j / 8) b).getD (k / 8) 0 = b := by
      rw [hq, List.getD, List.getElem?_set_self (by omega)]; rfl
    rw [hg, hb, Nat.testBit_or, Nat.testBit_two_pow]
    rw [hq] at h0
    by_cases hkj : k = j
    · subst hkj
      have h2 : (l.getD k 0 % 2).toNat = 1 := by omega
      rw [if_pos (by omega), h2, decide_eq_true rfl, Bool.or_true]; rfl
    · have hne : ¬ (7 - j % 8 = 7 - k % 8) := by omega
      simp only [hne, decide_false, Bool.or_false]
      rw [h0]
      by_cases hlt : k < j
      · rw [if_pos hlt, if_pos (by omega)]
      · rw [if_neg hlt, if_neg (by omega)]
  · have hg : (B.set (j / 8) b).getD (k / 8) 0 = B.getD (k / 8) 0 := by
      rw [List.getD, List.getD, List.getElem?_set_ne (by omega)]
    rw [hg, h0]
    by_cases hlt : k < j
    · rw [if_pos hlt, if_pos (by omega)]
    · rw [if_neg hlt, if_neg (by omega)]
theorem bits_same (l : List Int) (j : Nat) (B : List UInt8) (h : BitsAre l j B) (heven : l.getD j 0 % 2 = 0) : BitsAre l (j + 1) B := by
  intro k hk
  rw [h k hk]
  by_cases hkj : k = j
  · subst hkj; rw [if_neg (by omega), if_pos (by omega), heven]; rfl
  · by_cases hlt : k < j
    · rw [if_pos hlt, if_pos (by omega)]
    · rw [if_neg hlt, if_neg (by omega)]
theorem bits_none (l : List Int) (q : Nat) : BitsAre l 0 (List.replicate q 0) := by
  intro k hk
  rw [bitN_test, if_neg (by omega), List.getD]
  rw [List.length_replicate] at hk
  rw [List.getElem?_replicate, if_pos (by omega)]
  simp
theorem u8_ofNat_lt (z : Nat) (h : z < 256) : (UInt8.ofNat z).toNat = z := by
  rw [UInt8.toNat_ofNat']; exact Nat.mod_eq_of_lt h
def BitsPost (l : List Int) (w : World) (e : Ending) (w' : World) : Prop := ∃ A B, e = .returned (.slice A ((l.length + 7) / 8) ((l.length + 7) / 8)) ∧ Sl w' A (B.map byteV) ∧ B.length = (l.length + 7) / 8 ∧ BitsAre l l.length B ∧ Below w.heap.size w w'
theorem u8_or_nat' (a b : Nat) (ha : a < 256) (hb : b < 256) : bits .or .u8 (a : Int) (b : Int) = ((a ||| b : Nat) : Int) := u8_or_nat a b ha hb
set_option maxRecDepth 100000 in
set_option maxHeartbeats 2000000 in
theorem kit_Bits (A : Option Addr) (n c : Nat) (l : List Int) (w : World) (hA : Sl w A (l.map intV)) (hn : l.length = n) (hsz : n ≤ 100000) : Calls Tryd.prog 34 #[.slice A n c] w (BitsPost l w) := by
  have HA := Lib.hid hA; clear hA
  unfold BitsPost
  rw [hn]
  obtain ⟨i0, hi, hz0, hz1, hz2⟩ := info_parts (show (Tryd.prog.info? 5).map (fun i => (i.zero, i.size, i.bytes)) = some (some (.int .u8 0), 1, 1) by kernel_rfl)
  obtain ⟨q, hq⟩ : ∃ q : Nat, q = (n + 7) / 8 := ⟨_, rfl⟩
  rw [← hq]
  have hqi : ((n : Int) + 7) / 8 = (q : Int) := by omega
  have hmk : ∀ W : World, (Instr.makeSlice 22 (.int .i64 (q : Int)) (.int .i64 (q : Int))).run Tryd.prog W = .ok (.slice (some ⟨W.heap.size, 0, none⟩) q q) (W.alloc (.cells (madeCells #[.int .u8 0] q) 5)) := fun W => by
    have := run_make (P := Tryd.prog) W 22 5 i0 (.int .u8 0) (by kernel_rfl) hi hz0 .i64 .i64 (q : Int) (q : Int) (by omega) (by omega) (by rw [hz2]; omega) (by omega)
    rw [this, hz1, Int.toNat_natCast, Nat.mul_one]
    rfl
  have Hn := Lib.hid hn; clear hn
  have Hq := Lib.hid hq; clear hq
  have hq2 : q ≤ 20000 := by have := Hq.out; omega
  have Hpost := Lib.hid (show ∀ (B : List UInt8) (wr : World) (cs : Array Value), Blk wr w.heap.size 5 cs → cs.toList = B.map byteV → B.length = q → BitsAre l n B → Below w.heap.size w wr → ∃ (A : Option Addr) (B : List UInt8), Ending.returned (.slice (some ⟨w.heap.size, 0, none⟩) q q) = .returned (.slice A q q) ∧ Sl wr A (B.map byteV) ∧ B.length = q ∧ BitsAre l n B ∧ Below w.heap.size w wr from fun B wr cs h1 h2 h3 h4 h5 => ⟨_, B, rfl, by have := h1.sl 0; rw [List.drop_zero, h2] at this; exact this, h3, h4, h5⟩)
  refine Calls.mono (R := fun e wr => e = .returned (.slice (some ⟨w.heap.size, 0, none⟩) q q) ∧ Hid (∃ (B : List UInt8) (cs : Array Value), Blk wr w.heap.size 5 cs ∧ cs.toList = B.map byteV ∧ B.length = q ∧ BitsAre l n B ∧ Below w.heap.size w wr)) ?_ (fun e wr ⟨he, h⟩ => by obtain ⟨B, cs, h1, h2, h3, h4, h5⟩ := h.out; subst he; exact Hpost.out B wr cs h1 h2 h3 h4 h5)
  clear Hpost
  go_enter Tryd.func34, Tryd.ntmps34
  go_wp2_with fail
  clear hmk hqi
  go_loopg [4] n (fun g i => fun wr => ∃ (j : Nat), j + g = n ∧ i = .int .i64 (j : Int) ∧ Hid (∃ (B : List UInt8) (cs : Array Value), Blk wr w.heap.size 5 cs ∧ cs.toList = B.map byteV ∧ B.length = q ∧ BitsAre l j B ∧ Below w.heap.size w wr))
  case atStart =>
    refine ⟨0, by omega, rfl, Lib.hid ⟨List.replicate q 0, _, Blk.new w 5 _, ?_, by simp, bits_none l q, (Below.refl _ _).alloc (Nat.le_refl _) _⟩⟩
    rw [toList_madeCells_one]
    simp [byteV]
  case round =>
    obtain ⟨j, hj, rfl, HI⟩ := hrel
    cases gk with
    | zero =>
      obtain rfl : j = n := by omega
      have hlt : ¬ ((j : Int) < (j : Int)) := by omega
      go_wp2_with fail
      go_ret
      exact ⟨rfl, HI⟩
    | succ g =>
      have hlt : (j : Int) < (n : Int) := by omega
      obtain ⟨B, cs, h1, h2, h3, h4, h5⟩ := HI.out
      have hjl : j < l.length := by rw [Hn.out]; omega
      obtain ⟨ad, rfl, _, hc⟩ := (HA.out.below h5).int j hjl
      have hjb : j / 8 < B.length := by rw [h3, Hq.out]; omega
      have H2 := Lib.hid h2; have H3 := Lib.hid h3; have H4 := Lib.hid h4; have H1 := Lib.hid h1; have H5 := Lib.hid h5
      clear h1 h2 h3 h4 h5
      by_cases hodd : l[j] % 2 = 0
      · have ht : l[j].tmod 2 = 0 := Int.tmod_eq_zero_of_dvd (Int.dvd_of_emod_eq_zero hodd)
        have Hs := Lib.hid (bits_same l j B H4.out (by rw [List.getD, List.getElem?_eq_getElem hjl]; exact hodd))
        clear hodd
        generalize l[j] = x at hc ht
        go_wp2_with fail
        go_roundg g
        case measure => omega
        case rel => exact ⟨j + 1, by omega, rfl, Lib.hid ⟨B, cs, H1.out, H2.out, H3.out, Hs.out, H5.out⟩⟩
      · have hbyte : (B[j / 8]).toNat < 256 := UInt8.toNat_lt _
        have hp : 2 ^ (7 - j % 8) < 256 := Nat.lt_of_le_of_lt (Nat.pow_le_pow_right (by decide) (by omega : 7 - j % 8 ≤ 7)) (by decide)
        have hor : (B[j / 8]).toNat ||| 2 ^ (7 - j % 8) < 256 := Nat.or_lt_two_pow (n := 8) hbyte hp
        have Hset := Lib.hid (bits_set l j B H4.out (by have := H3.out; have := Hq.out; omega) (by rw [List.getD, List.getElem?_eq_getElem hjl]; exact hodd) (UInt8.ofNat ((B[j / 8]).toNat ||| 2 ^ (7 - j % 8))) (by
          rw [u8_ofNat_lt _ hor, List.getD, List.getElem?_eq_getElem hjb]; rfl))
        have hcell : wr.cell? ⟨w.heap.size, j / 8, none⟩ = some (.int .u8 (B[j / 8]).toNat) := by
          rw [H1.out.cell, ← Array.getElem?_toList, H2.out, List.getElem?_map, List.getElem?_eq_getElem hjb]; rfl
        have hf := H1.out.frozen (j / 8)
        have hshr : (128 : Int) / 2 ^ (j % 8) = ((2 ^ (7 - j % 8) : Nat) : Int) := by
          have h8 : j % 8 < 8 := Nat.mod_lt _ (by decide)
          generalize j % 8 = z at h8
          have : z = 0 ∨ z = 1 ∨ z = 2 ∨ z = 3 ∨ z = 4 ∨ z = 5 ∨ z = 6 ∨ z = 7 := by omega
          rcases this with rfl | rfl | rfl | rfl | rfl | rfl | rfl | rfl <;> rfl
        have Hor := u8_or_nat' (B[j / 8]).toNat (2 ^ (7 - j % 8)) hbyte hp
        have hx : ¬ l[j].tmod 2 = 0 := fun h => hodd (Int.emod_eq_zero_of_dvd (Int.dvd_of_tmod_eq_zero h))
        have hne : (l[j].tmod 2 != 0) = true := by rw [bne_iff_ne]; exact hx
        have Hodd := Lib.hid hodd
        clear hodd hx
        generalize l[j] = x at hc hne
        generalize (B[j / 8]).toNat ||| 2 ^ (7 - j % 8) = z at Hset Hor hor
        generalize hb8 : (B[j / 8]).toNat = b8 at hcell Hor hbyte
        generalize 2 ^ (7 - j % 8) = y at hshr Hor hp
        clear hb8
        have hjq : (j : Int) / 8 < (q : Int) := by have := H3.out; omega
        have hj0 : 0 ≤ (j : Int) / 8 := by omega
        have hjn : ((j : Int) / 8).toNat = j / 8 := by omega
        go_wp2_with fail
        go_roundg g
        case measure => omega
        case rel =>
          refine ⟨j + 1, by omega, rfl, Lib.hid ⟨B.set (j / 8) (UInt8.ofNat z), _, H1.out.set_ _ _, ?_, ?_, Hset.out, H5.out.setCell (p := ⟨w.heap.size, j / 8, none⟩) (Nat.le_refl _) _⟩⟩
          · rw [Array.toList_setIfInBounds, H2.out, List.map_set, byteV, u8_ofNat_lt z hor]
          · rw [List.length_set]; exact H3.out
end Go.Proofs.YtedjplbiibflmaaDoor
