/- bits that were packed stand at their place, whole or cut off; all that is put is bits. No condition. -/
import Derived.Test.YtcojnigkgbmbmaaGreatDoorKAgainQ
namespace Go.Proofs.YtcojnigkgbmbmaaGreatDoor
open Go Go.RowKit
def Bits (s : List UInt8) : Prop := ∀ c ∈ s, c = 48 ∨ c = 49
theorem Bits.app {s t : List UInt8} (h : Bits s) (k : Bits t) : Bits (s ++ t) := fun c hc => by
  rcases List.mem_append.1 hc with hc | hc
  · exact h c hc
  · exact k c hc
theorem bits_nil : Bits [] := fun c hc => by cases hc
theorem bits_of {s : List UInt8} (h : s.all (fun b => b == 48 || b == 49) = true) : Bits s := fun c hc => by
  have := List.all_eq_true.1 h c hc
  simpa using this
theorem bits_code {cs : List (List UInt8)} (hc : cs.all isCode = true) (k : Nat) (hk : k < cs.length) : Bits cs[k] := by
  have := List.all_eq_true.1 hc _ (List.getElem_mem hk)
  simp only [isCode, Bool.and_eq_true] at this
  exact bits_of this.1.1
theorem bits_dig (n m : Nat) : Bits (digL n m) := fun c hc => by
  unfold digL at hc
  obtain ⟨j, _, rfl⟩ := List.mem_map.1 hc
  split
  · exact .inl rfl
  · exact .inr rfl
theorem codeAt_bits {cs : List (List UInt8)} (hc : cs.all isCode = true) (lo k : Int) : Bits ((codeAt cs lo k).getD []) := by
  unfold codeAt
  split
  · exact bits_nil
  · rcases Nat.lt_or_ge (k - lo).toNat cs.length with h | h
    · rw [List.getElem?_eq_getElem h]; exact bits_code hc _ h
    · rw [List.getElem?_eq_none h]; exact bits_nil
theorem tab_bits (first : Bool) : (tabL first).all (fun e => e.2.all (fun b => b == 48 || b == 49)) = true := by cases first <;> kernel_rfl
theorem bits_cput (p : Int × Int) (first : Bool) : Bits (cputP p first) := by
  unfold cputP
  split
  · unfold escP
    exact ((bits_of (by decide)).app (bits_dig _ _)).app (bits_dig _ _)
  · rename_i hs
    obtain ⟨k, hk, h1, _⟩ := shortC_at _ (by simpa using hs)
    rw [h1]
    refine (bits_of (List.all_eq_true.1 (tab_bits first) _ (List.getElem_mem hk))).app ?_
    split <;> exact bits_of (by decide)
theorem bits_cputL : ∀ (L : List (Int × Int)) (first : Bool), Bits (cputL L first)
  | [], _ => bits_nil
  | p :: L, first => (bits_cput p first).app (bits_cputL L false)
theorem bits_bput (x : BlkM) (intra : Bool) : Bits (bputP x intra) := by
  unfold bputP
  refine (Bits.app ?_ (bits_cputL _ _)).app (bits_of (by decide))
  split
  · exact bits_dig _ _
  · exact bits_nil
theorem bits_bl (intra : Bool) : ∀ bl : List BlkM, Bits (bl.flatMap fun b => bputP b intra)
  | [] => bits_nil
  | b :: bl => by rw [List.flatMap_cons]; exact (bits_bput b intra).app (bits_bl intra bl)
theorem bits_mput (m : MacM) (x : LastM) : Bits (mputL m x) := by
  rw [mputL_parts]
  refine (codeAt_bits kind_code _ _).app (Bits.app ?_ (Bits.app ?_ (Bits.app ?_ (bits_bl _ _))))
  · unfold mQ; split
    · exact bits_dig _ _
    · exact bits_nil
  · unfold mV; split
    · exact (codeAt_bits vec_code _ _).app (codeAt_bits vec_code _ _)
    · exact bits_nil
  · unfold mC; split
    · exact codeAt_bits pat_code _ _
    · exact bits_nil
theorem at_pack {X s Y : List UInt8} (hs : Bits s) : At (packL (X ++ s ++ Y)) X.length s := by
  have hl : (X ++ s ++ Y).length = X.length + s.length + Y.length := by simp; omega
  refine ⟨by rw [packL_length, hl]; omega, ?_⟩
  apply List.ext_getElem (bitsL_length _ _ _)
  intro j h1 h2
  rw [bitsL_length] at h1
  have e : (bitsL (packL (X ++ s ++ Y)) X.length s.length)[j]'(by rw [bitsL_length]; exact h1) = bitC (packL (X ++ s ++ Y)) (X.length + j) := by
    unfold bitsL
    rw [List.getElem_map, List.getElem_range]
  rw [e]
  unfold bitC
  rw [bitN_pack _ _ (by rw [hl]; omega)]
  have g : (X ++ s ++ Y)[X.length + j]? = some s[j] := by
    rw [List.append_assoc, List.getElem?_append_right (by omega), Nat.add_sub_cancel_left, List.getElem?_append_left h1, List.getElem?_eq_getElem h1]
  unfold bitD
  rw [g]
  rcases hs _ (List.getElem_mem h1) with h | h <;> rw [h] <;> decide
theorem bitN_take (l : List UInt8) (e k : Nat) (h : k < 8 * e) : bitN (l.take e) k = bitN l k := by
  unfold bitN
  have : (l.take e).getD (k / 8) 0 = l.getD (k / 8) 0 := by
    rw [List.getD, List.getD, List.getElem?_take_of_lt (by omega)]
  rw [this]
theorem cut_take {l : List UInt8} {i : Nat} {s : List UInt8} (h : At l i s) (e : Nat) (he : e ≤ l.length) (h1 : i ≤ 8 * e) (h2 : 8 * e < i + s.length) : Cut (l.take e) i s := by
  have hl : (l.take e).length = e := by rw [List.length_take]; omega
  refine ⟨by rw [hl]; exact h1, by rw [hl]; exact h2, ?_⟩
  rw [hl]
  have e1 : bitsL (l.take e) i (8 * e - i) = bitsL l i (8 * e - i) := by
    unfold bitsL
    apply List.map_congr_left
    intro j hj
    have hj := List.mem_range.1 hj
    unfold bitC
    rw [bitN_take _ _ _ (by omega)]
  rw [e1]
  obtain ⟨k, hk⟩ : ∃ k, s.length = (8 * e - i) + k := ⟨s.length - (8 * e - i), by omega⟩
  have h3 := h.2
  rw [hk, bitsL_append] at h3
  rw [← h3, List.take_append_of_le_length (by rw [bitsL_length]; exact Nat.le_refl _), List.take_of_length_le (by rw [bitsL_length]; exact Nat.le_refl _)]
end Go.Proofs.YtcojnigkgbmbmaaGreatDoor
