/- The plain law of AddressGets: what the program answers is what the reference answers. -/
import Derived.Test.YtedjplbiibflmaaDoorRef03
import Derived.Test.YtedjplbiibflmaaDoorRef04
namespace Go.Proofs.YtedjplbiibflmaaDoor
open Go Go.RowKit
def ns35 : List Int := (List.range 35).map fun (k : Nat) => (k : Int)
def fix34 (r : Int × Int × Int) : Int × Int × Int := if r.1 = 34 then (34, 0, r.2.2) else r
def findIx (s : List UInt8) : List (List UInt8) → Nat → Option (Int × Int)
  | [], _ => none
  | c :: cs, n => if c.isPrefixOf s then some ((n : Int), (c.length : Int)) else findIx s cs (n + 1)
theorem agree_prefix (c t : List UInt8) (h : c.length ≤ t.length) : agree c t = c.isPrefixOf t := by
  rw [← prefix_take c t h]
  unfold agree
  rw [Nat.min_eq_left h, List.take_of_length_le (Nat.le_refl _), Bool.eq_iff_iff, beq_iff_eq, beq_iff_eq]
  exact eq_comm
theorem agree_prefix' (c t : List UInt8) (h : t.length ≤ c.length) : agree c t = t.isPrefixOf c := by
  rw [← prefix_take t c h]
  unfold agree
  rw [Nat.min_eq_right h, List.take_of_length_le (l := t) (Nat.le_refl _)]
theorem lookR_eq (t : List UInt8) : ∀ (cs : List (List UInt8)) (n : Nat) (more : Bool), lookR t cs n more =
    match findIx t cs n with
    | some (k, len) => (k, len, 0)
    | none => if more || cs.any (fun c => t.isPrefixOf c) then (0, 0, 5) else (0, 0, 7)
  | [], n, more => by simp [lookR, findIx]
  | c :: cs, n, more => by
    by_cases h : c.length ≤ t.length
    · rw [lookR, findIx, agree_prefix c t h]
      by_cases hp : c.isPrefixOf t = true
      · rw [if_pos hp, if_pos hp, if_pos h]
      · have hp' : c.isPrefixOf t = false := Bool.eq_false_iff.2 hp
        rw [hp', if_neg (by simp), if_neg (by simp), lookR_eq t cs (n + 1) more]
        have hq : t.isPrefixOf c = false := by
          rw [Bool.eq_false_iff]
          intro hq
          have h1 := List.isPrefixOf_iff_prefix.1 hq
          have he : t = c := h1.eq_of_length (Nat.le_antisymm h1.length_le h)
          rw [he] at hp'
          rw [List.isPrefixOf_iff_prefix.2 (List.prefix_refl c)] at hp'
          cases hp'
        simp only [List.any_cons, hq, Bool.false_or]
    · have hp : c.isPrefixOf t = false := prefix_long c t h
      rw [lookR, findIx, agree_prefix' c t (by omega), hp, if_neg (by simp : ¬ (false = true)), if_neg h]
      by_cases hq : t.isPrefixOf c = true
      · rw [if_pos hq, lookR_eq t cs (n + 1) true]
        simp only [List.any_cons, hq, Bool.true_or, Bool.or_true]
      · have hq' : t.isPrefixOf c = false := Bool.eq_false_iff.2 hq
        rw [if_neg hq, lookR_eq t cs (n + 1) more]
        simp only [List.any_cons, hq', Bool.false_or]
theorem prefix_cut (c s : List UInt8) (h : c.length ≤ 15) : c.isPrefixOf (s.take 15) = c.isPrefixOf s := by
  rw [Bool.eq_iff_iff, List.isPrefixOf_iff_prefix, List.isPrefixOf_iff_prefix, List.prefix_take_iff]
  exact ⟨fun h1 => h1.1, fun h1 => ⟨h1, h⟩⟩
theorem findIx_cut (s : List UInt8) : ∀ (cs : List (List UInt8)) (n : Nat), cs.all (fun c => decide (c.length ≤ 15)) = true → findIx (s.take 15) cs n = findIx s cs n
  | [], _, _ => rfl
  | c :: cs, n, h => by
    simp only [List.all_cons, Bool.and_eq_true, decide_eq_true_eq] at h
    rw [findIx, findIx, prefix_cut c s h.1, findIx_cut s cs (n + 1) h.2]
theorem findR_eq (s : List UInt8) : ∀ (cs : List (List UInt8)) (n : Nat) (d : List UInt8) (k : Int), findR s (cs ++ [d]) ((List.range' n cs.length).map (fun (k : Nat) => (k : Int)) ++ [k]) =
    match findIx s cs n with
    | some r => some r
    | none => if d.isPrefixOf s then some (k, (d.length : Int)) else none
  | [], n, d, k => by simp [findR, findIx]
  | c :: cs, n, d, k => by
    simp only [List.cons_append, List.length_cons, List.range'_succ, List.map_cons]
    rw [findR, findIx]
    split
    · rfl
    · exact findR_eq s cs (n + 1) d k
theorem findIx_none (s : List UInt8) : ∀ (cs : List (List UInt8)) (n : Nat), cs.all (fun c => !c.isPrefixOf s) = true → findIx s cs n = none
  | [], _, _ => rfl
  | c :: cs, n, h => by
    simp only [List.all_cons, Bool.and_eq_true, Bool.not_eq_true'] at h
    rw [findIx, h.1, if_neg (by simp), findIx_none s cs (n + 1) h.2]
theorem findIx_lt (s : List UInt8) : ∀ (cs : List (List UInt8)) (n : Nat) (r : Int × Int), findIx s cs n = some r → r.1 < (n : Int) + cs.length
  | [], _, _, h => by cases h
  | c :: cs, n, r, h => by
    rw [findIx] at h
    split at h
    · cases h; simp; omega
    · have := findIx_lt s cs (n + 1) r h
      simp only [List.length_cons]
      omega
theorem codesL_short : codesL.all (fun c => decide (c.length ≤ 15)) = true := by kernel_rfl
theorem codesL_eleven : codesL.all (fun c => decide (c.length ≤ 11)) = true := by kernel_rfl
theorem codesL_no : codesL.all (fun c => !c.isPrefixOf noughts) = true := by kernel_rfl
theorem plain_cut (s : List UInt8) : (if s.take 15 = noughts then (34, 0, 0) else lookR (s.take 15) codesL 0 ((s.take 15).isPrefixOf noughts)) = fix34 (getT codes35 ns35 s) := by
  have hf := findR_eq s codesL 0 noughts 34
  have hns : ns35 = (List.range' 0 codesL.length).map (fun (k : Nat) => (k : Int)) ++ [34] := rfl
  have hcs : codes35 = codesL ++ [noughts] := rfl
  unfold getT
  rw [hcs, hns, hf]
  by_cases hz : s.take 15 = noughts
  · rw [if_pos hz, ← findIx_cut s codesL 0 codesL_short, hz, findIx_none _ _ _ codesL_no]
    have hp : noughts.isPrefixOf s = true := by
      rw [List.isPrefixOf_iff_prefix, ← hz]; exact List.take_prefix _ _
    simp [hp, fix34]
  · rw [if_neg hz, lookR_eq, findIx_cut s codesL 0 codesL_short]
    cases hfi : findIx s codesL 0 with
    | some r =>
      obtain ⟨k, len⟩ := r
      have := findIx_lt s codesL 0 _ hfi
      rw [codesL_length] at this
      simp only [fix34]
      rw [if_neg (by simp at this ⊢; omega)]
    | none =>
      have hp : noughts.isPrefixOf s = false := by
        rw [Bool.eq_false_iff]
        intro h
        have h1 := List.prefix_iff_eq_take.1 (List.isPrefixOf_iff_prefix.1 h)
        exact hz h1.symm
      simp only [hp, List.any_append, List.any_cons, List.any_nil, Bool.or_false]
      rw [if_neg (by simp : ¬ (false = true))]
      by_cases hl : s.length ≤ 15
      · rw [List.take_of_length_le hl, Bool.or_comm]
        simp only [fix34]
        split
        · rfl
        · rfl
      · have e1 : s.isPrefixOf noughts = false := prefix_long _ _ (by simp [noughts]; omega)
        have e2 : (codesL.any fun c => s.isPrefixOf c) = false := by
          rw [List.any_eq_false]
          intro c hc
          have := List.all_eq_true.1 codesL_short c hc
          simp only [decide_eq_true_eq] at this
          rw [prefix_long _ _ (by omega)]; simp
        have hl15 : (s.take 15).length = 15 := by rw [List.length_take]; omega
        have e3 : (s.take 15).isPrefixOf noughts = false := by
          rw [Bool.eq_false_iff]
          intro h
          exact hz ((List.isPrefixOf_iff_prefix.1 h).eq_of_length (by rw [hl15]; rfl))
        have e4 : (codesL.any fun c => (s.take 15).isPrefixOf c) = false := by
          rw [List.any_eq_false]
          intro c hc
          have := List.all_eq_true.1 codesL_eleven c hc
          simp only [decide_eq_true_eq] at this
          rw [prefix_long _ _ (by omega)]; simp
        rw [e1, e2, e3, e4]
        rfl
theorem bitsL_take (l : List UInt8) (k m : Nat) : (bitsL l k (min 24 m)).take 15 = bitsL l k (min 15 m) := by
  unfold bitsL
  rw [← List.map_take, List.take_range]
  congr 2
  omega
theorem getR_eq (l : List UInt8) (i : Int) : getR l i = fix34 (treeR codes35 ns35 l i) := by
  unfold getR treeR
  by_cases h1 : i < 0
  · rw [if_pos h1, if_pos h1]; rfl
  · rw [if_neg h1, if_neg h1]
    by_cases h2 : 8 * (l.length : Int) < i
    · rw [if_pos h2, show 8 * l.length - i.toNat = 0 by omega]
      simp only [Nat.min_zero, bitsL, List.range_zero, List.map_nil]
      kernel_rfl
    · rw [if_neg h2, ← plain_cut, bitsL_take]
end Go.Proofs.YtedjplbiibflmaaDoor
