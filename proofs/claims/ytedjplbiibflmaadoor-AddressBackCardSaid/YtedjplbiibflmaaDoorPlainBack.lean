/- The plain law of AddressBack: bits that begin with a code are got. -/
import Derived.Test.YtedjplbiibflmaaDoorPlain04
import Derived.Test.YtedjplbiibflmaaDoorLaw04b
import Derived.Test.YtedjplbiibflmaaDoorKitBits
namespace Go.Proofs.YtedjplbiibflmaaDoor
open Go Go.RowKit
/-- from bit i on B holds the code c -/
def CodeAt (c : List UInt8) (B : List UInt8) (i : Nat) : Prop := ∀ k, k < c.length → bitC B (i + k) = c.getD k 0
theorem codeAt_prefix (c B : List UInt8) (i m : Nat) (h : CodeAt c B i) (hm : c.length ≤ m) : c <+: bitsL B i m := by
  rw [List.prefix_iff_eq_take]
  apply List.ext_getElem?
  intro k
  rw [List.getElem?_take]
  by_cases hk : k < c.length
  · rw [if_pos hk]
    have := h k hk
    simp only [bitsL, List.getElem?_map]
    rw [List.getElem?_range (by omega), Option.map_some, this, List.getD, List.getElem?_eq_getElem hk]
    rfl
  · rw [if_neg hk, List.getElem?_eq_none (by omega)]
theorem codeAt_take (c B : List UInt8) (m : Nat) (h : CodeAt c B 0) (hm : m ≤ c.length) : bitsL B 0 m = c.take m := by
  apply List.ext_getElem?
  intro k
  rw [List.getElem?_take]
  by_cases hk : k < m
  · rw [if_pos hk]
    have := h k (by omega)
    simp only [bitsL, List.getElem?_map]
    rw [List.getElem?_range (by omega), Option.map_some, this, List.getD, List.getElem?_eq_getElem (by omega)]
    rfl
  · rw [if_neg hk, List.getElem?_eq_none (by rw [bitsL_length]; omega)]
theorem findIx_of (s : List UInt8) : ∀ (cs : List (List UInt8)) (n d : Nat), d < cs.length → (cs.getD d []).isPrefixOf s = true → (∀ i, i < d → (cs.getD i []).isPrefixOf s = false) → findIx s cs n = some (((n + d : Nat) : Int), ((cs.getD d []).length : Int))
  | [], _, _, h, _, _ => absurd h (by simp)
  | c :: cs, n, 0, _, h, _ => by
    rw [findIx, if_pos (by simpa using h)]; rfl
  | c :: cs, n, d + 1, hd, h, hn => by
    have h0 : c.isPrefixOf s = false := hn 0 (by omega)
    have := findIx_of s cs (n + 1) d (by simpa using hd) (by simpa using h) (fun i hi => by have := hn (i + 1) (by omega); simpa using this)
    rw [findIx, h0, if_neg (by simp), this]
    simp
    omega
theorem codes_first (s : List UInt8) (d : Nat) (hd : d < 34) (h : codesL.getD d [] <+: s) : findIx s codesL 0 = some ((d : Int), ((codesL.getD d []).length : Int)) := by
  have := findIx_of s codesL 0 d (by rw [codesL_length]; exact hd) (List.isPrefixOf_iff_prefix.2 h) (fun i hi => by
    rw [Bool.eq_false_iff]
    intro hp
    have h1 := List.isPrefixOf_iff_prefix.1 hp
    have ha := codes_apart i d (by omega) hd (by omega)
    rcases Nat.le_total (codesL.getD i []).length (codesL.getD d []).length with hl | hl
    · rw [agree_prefix _ _ hl, List.isPrefixOf_iff_prefix.2 (List.prefix_of_prefix_length_le h1 h hl)] at ha
      cases ha
    · rw [agree_prefix' _ _ hl, List.isPrefixOf_iff_prefix.2 (List.prefix_of_prefix_length_le h h1 hl)] at ha
      cases ha)
  rw [this]; simp
theorem codes_some (d : Nat) (hd : d < 34) : (codesL.getD d []).length ≤ 11 ∧ 1 ≤ (codesL.getD d []).length ∧ (codesL.getD d []).all (fun b => b == 48) = false ∧ (codesL.getD d []).all (fun b => b == 48 || b == 49) = true := by
  have := codes_ok d hd
  simp only [codeOk, Bool.and_eq_true, decide_eq_true_eq, Bool.not_eq_true'] at this
  exact ⟨this.1.2, this.1.1.2, this.2, this.1.1.1⟩
theorem getR_of (d : Nat) (hd : d < 34) (B : List UInt8) (i : Nat) (h : CodeAt (codesL.getD d []) B i) (hl : i + (codesL.getD d []).length ≤ 8 * B.length) : getR B (i : Int) = ((d : Int), ((codesL.getD d []).length : Int), 0) := by
  obtain ⟨h11, h1, hn, _⟩ := codes_some d hd
  unfold getR
  rw [if_neg (by omega), if_neg (by omega), Int.toNat_natCast]
  have hp : codesL.getD d [] <+: bitsL B i (min 15 (8 * B.length - i)) := codeAt_prefix _ _ _ _ h (by omega)
  have hne : bitsL B i (min 15 (8 * B.length - i)) ≠ noughts := by
    intro he
    rw [he] at hp
    have : (codesL.getD d []).all (fun b => b == 48) = true := by
      rw [List.all_eq_true]
      intro b hb
      have := hp.subset hb
      simp [noughts] at this
      simp [this]
    rw [this] at hn; cases hn
  simp only [if_neg hne]
  rw [lookR_eq, codes_first _ d hd hp]
theorem cut_all : ((List.range 34).all fun d => let c := codesL.getD d []; let s := c.take (8 * ((c.length - 1) / 8)); decide ((if s = noughts then (34, 0, 0) else lookR s codesL 0 (s.isPrefixOf noughts) : Int × Int × Int) = (0, 0, 5))) = true := by kernel_rfl
theorem getR_cut (d : Nat) (hd : d < 34) (B : List UInt8) (h : CodeAt (codesL.getD d []) B 0) (hl : (codesL.getD d []).length ≤ 8 * B.length) : getR (B.take (((codesL.getD d []).length - 1) / 8)) 0 = (0, 0, 5) := by
  obtain ⟨h11, h1, hn, _⟩ := codes_some d hd
  have hc := List.all_eq_true.1 cut_all d (List.mem_range.2 hd)
  simp only [decide_eq_true_eq] at hc
  rw [← hc]
  have hlen : (B.take (((codesL.getD d []).length - 1) / 8)).length = ((codesL.getD d []).length - 1) / 8 := by rw [List.length_take]; omega
  have hb : bitsL (B.take (((codesL.getD d []).length - 1) / 8)) 0 (8 * (((codesL.getD d []).length - 1) / 8)) = (codesL.getD d []).take (8 * (((codesL.getD d []).length - 1) / 8)) := by
    rw [← codeAt_take _ B _ h (by omega)]
    unfold bitsL
    apply List.map_congr_left
    intro k hk
    have hk := List.mem_range.1 hk
    unfold bitC bitN
    have : (B.take (((codesL.getD d []).length - 1) / 8)).getD ((0 + k) / 8) 0 = B.getD ((0 + k) / 8) 0 := by
      have hk8 : (0 + k) / 8 < ((codesL.getD d []).length - 1) / 8 := by omega
      generalize ((codesL.getD d []).length - 1) / 8 = z at hk8
      simp only [List.getD, List.getElem?_take, if_pos hk8]
    rw [this]
  unfold getR
  rw [if_neg (by omega), if_neg (by omega), hlen]
  simp only [Int.toNat_zero, Nat.sub_zero]
  rw [show min 15 (8 * (((codesL.getD d []).length - 1) / 8)) = 8 * (((codesL.getD d []).length - 1) / 8) by omega, hb]
/-- the code's bits as numbers -/
def bl (c : List UInt8) : List Int := c.map fun b => (b.toNat : Int) - 48
theorem bitsAre_code (c : List UInt8) (l : List Int) (B : List UInt8) (hc : c.all (fun b => b == 48 || b == 49) = true) (h : BitsAre (bl c ++ l) (bl c ++ l).length B) (hl : c.length ≤ 8 * B.length) : CodeAt c B 0 := by
  intro k hk
  have h1 := h k (by omega)
  rw [if_pos (by simp [bl]; omega)] at h1
  have hg : (bl c ++ l).getD k 0 = (c[k].toNat : Int) - 48 := by
    rw [List.getD, List.getElem?_append_left (by simpa [bl] using hk)]
    simp [bl, hk]
  have hm := List.all_eq_true.1 hc c[k] (List.getElem_mem hk)
  simp only [Bool.or_eq_true, beq_iff_eq] at hm
  rw [List.getD, List.getElem?_eq_getElem hk, Nat.zero_add]
  unfold bitC
  rw [h1, hg]
  rcases hm with hm | hm <;> simp [hm]
theorem codeAt_cons (c B : List UInt8) (x : UInt8) (h : CodeAt c B 0) : CodeAt c (x :: B) 8 := by
  intro k hk
  rw [← h k hk]
  unfold bitC bitN
  rw [show (8 + k) / 8 = (0 + k) / 8 + 1 by omega, show (8 + k) % 8 = (0 + k) % 8 by omega]
  simp
end Go.Proofs.YtedjplbiibflmaaDoor
