/- BackP, BackQ -/
import Derived.Test.YtcojnigkgbmbmaaGreatDoorK34
namespace Go.Proofs.YtcojnigkgbmbmaaGreatDoor
open Go Go.RowKit
theorem lookC_no' {s c : List UInt8} {p : Int × Int} {T : List ((Int × Int) × List UInt8)} {more : Bool} (h : sameB s c = false) : lookC s ((p, c) :: T) more = lookC s T more := by
  show (if !sameB s c then _ else _) = _
  rw [h]; rfl
theorem lookC_short' {s c : List UInt8} {p : Int × Int} {T : List ((Int × Int) × List UInt8)} {more : Bool} (h : sameB s c = true) (hl : s.length ≤ c.length) : lookC s ((p, c) :: T) more = lookC s T true := by
  show (if !sameB s c then _ else if s.length ≤ c.length then _ else _) = _
  rw [h, if_neg (by decide), if_pos hl]
theorem lookC_hit' {s c : List UInt8} {p : Int × Int} {T : List ((Int × Int) × List UInt8)} {more : Bool} (h : sameB s c = true) (hl : ¬ s.length ≤ c.length) : lookC s ((p, c) :: T) more = ((p.1, if s.getD c.length 0 == 49 then -p.2 else p.2), false, (c.length : Int) + 1, 0) := by
  show (if !sameB s c then _ else if s.length ≤ c.length then _ else _) = _
  rw [h, if_neg (by decide), if_neg hl]
theorem numS_snoc' (s : List UInt8) (c : UInt8) : numS (s ++ [c]) = 2 * numS s + (c.toNat - 48) := by unfold numS; rw [List.foldl_append]; rfl
theorem sameB_iff {a b : List UInt8} : sameB a b = true ↔ (a <+: b ∨ b <+: a) := by
  unfold sameB
  rw [beq_iff_eq]
  rcases Nat.le_total a.length b.length with h | h
  · rw [Nat.min_eq_left h, List.take_length]
    constructor
    · exact fun e => .inl (List.prefix_iff_eq_take.2 e)
    · rintro (h2 | h2)
      · exact List.prefix_iff_eq_take.1 h2
      · have e := h2.eq_of_length (by have := h2.length_le; omega)
        rw [e, List.take_length]
  · rw [Nat.min_eq_right h, List.take_length]
    constructor
    · exact fun e => .inr (List.prefix_iff_eq_take.2 e.symm)
    · rintro (h2 | h2)
      · have e := h2.eq_of_length (by have := h2.length_le; omega)
        rw [e, List.take_length]
      · exact (List.prefix_iff_eq_take.1 h2).symm
abbrev TabE : Type := (Int × Int) × List UInt8
/-- a code's look-up: no other one is like it. -/
theorem lookC_at {s : List UInt8} {b : UInt8} : ∀ (T : List TabE) (more : Bool) (k : Nat) (hk : k < T.length), (∀ j (hj : j < T.length), (T[j].2 <+: T[k].2 ∨ T[k].2 <+: T[j].2) → j = k) → T[k].2 ++ [b] <+: s →
    lookC s T more = ((T[k].1.1, if b == 49 then -T[k].1.2 else T[k].1.2), false, (T[k].2.length : Int) + 1, 0)
  | [], _, k, hk, _, _ => by simp at hk
  | (p, c) :: T, more, 0, hk, hf, hp => by
    have hp : c ++ [b] <+: s := hp
    have h1 : c <+: s := (List.prefix_append c [b]).trans hp
    have h2 : c.length + 1 ≤ s.length := by have := hp.length_le; simpa using this
    rw [lookC_hit' (sameB_iff.2 (.inr h1)) (by omega)]
    obtain ⟨t, rfl⟩ := hp
    have e : ((c ++ [b]) ++ t).getD c.length 0 = b := by simp [List.getD]
    rw [e]
    rfl
  | (p, c) :: T, more, k + 1, hk, hf, hp => by
    have hk' : k < T.length := by simpa using hk
    have hp : T[k].2 ++ [b] <+: s := hp
    have h1 : T[k].2 <+: s := (List.prefix_append _ [b]).trans hp
    have hs : sameB s c = false := by
      rw [← Bool.not_eq_true, sameB_iff]
      intro h
      have h3 : c <+: T[k].2 ∨ T[k].2 <+: c := by
        rcases h with h | h
        · exact .inr (h1.trans h)
        · exact List.prefix_or_prefix_of_prefix h h1
      have := hf 0 (by simp) h3
      omega
    rw [lookC_no' hs]
    exact lookC_at T more k hk' (fun j hj h => by have := hf (j + 1) (by simpa using hj) h; omega) hp
/-- a code that is cut off. -/
theorem lookC_cut {s : List UInt8} : ∀ (T : List TabE) (more : Bool), (∀ e ∈ T, sameB s e.2 = true → s.length ≤ e.2.length) → (more = true ∨ ∃ e ∈ T, sameB s e.2 = true) → lookC s T more = ((0, 0), false, 0, 5)
  | [], more, _, h => by
    rcases h with rfl | ⟨e, he, _⟩
    · rfl
    · simp at he
  | (p, c) :: T, more, ha, h => by
    cases hs : sameB s c with
    | true =>
      rw [lookC_short' hs (ha (p, c) (by simp) hs)]
      exact lookC_cut T true (fun e he => ha e (List.mem_cons_of_mem _ he)) (.inl rfl)
    | false =>
      rw [lookC_no' hs]
      refine lookC_cut T more (fun e he => ha e (List.mem_cons_of_mem _ he)) ?_
      rcases h with h | ⟨e, he, h2⟩
      · exact .inl h
      · rcases List.mem_cons.1 he with rfl | he
        · rw [hs] at h2; cases h2
        · exact .inr ⟨e, he, h2⟩
/-- all codes that may stand at a place. -/
def codesT (first : Bool) : List (List UInt8) := escC :: endC :: (if first then [] else (tabL false).map (·.2))
theorem codesT_free : codesFree (escC :: endC :: (tabL false).map (·.2)) = true := by kernel_rfl
theorem codesF_free : codesFree (escC :: (tabL true).map (·.2)) = true := by kernel_rfl
theorem tab_pos (first : Bool) : (tabL first).all (fun e => decide (0 < e.1.2) && decide (1 ≤ e.2.length) && decide (e.2.length ≤ 19)) = true := by cases first <;> kernel_rfl
/-- the codes of pairs, and the other codes. -/
theorem tab_free (first : Bool) {k : Nat} (hk : k < (tabL first).length) : (∀ j (hj : j < (tabL first).length), ((tabL first)[j].2 <+: (tabL first)[k].2 ∨ (tabL first)[k].2 <+: (tabL first)[j].2) → j = k) ∧
    ¬ (escC <+: (tabL first)[k].2) ∧ ¬ ((tabL first)[k].2 <+: escC) ∧ (first = false → ¬ (endC <+: (tabL first)[k].2) ∧ ¬ ((tabL first)[k].2 <+: endC)) := by
  cases first with
  | true =>
    have h := @free_get _ codesF_free
    have e : ∀ j (hj : j < (tabL true).length), ∃ hj' : j + 1 < (escC :: (tabL true).map (·.2)).length, (escC :: (tabL true).map (·.2))[j + 1] = (tabL true)[j].2 := fun j hj => ⟨by simp [hj], by simp⟩
    obtain ⟨k1, k2⟩ := e k hk
    refine ⟨fun j hj h2 => ?_, fun h2 => ?_, fun h2 => ?_, fun h => by cases h⟩
    · obtain ⟨j1, j2⟩ := e j hj
      rcases h2 with h2 | h2
      · have := h k1 j1 (by rw [j2, k2]; exact h2); omega
      · have := h j1 k1 (by rw [j2, k2]; exact h2); omega
    · have := h (i := k + 1) (k := 0) k1 (by simp) (by rw [k2]; exact h2); omega
    · have := h (i := 0) (k := k + 1) (by simp) k1 (by rw [k2]; exact h2); omega
  | false =>
    have h := @free_get _ codesT_free
    have e : ∀ j (hj : j < (tabL false).length), ∃ hj' : j + 2 < (escC :: endC :: (tabL false).map (·.2)).length, (escC :: endC :: (tabL false).map (·.2))[j + 2] = (tabL false)[j].2 := fun j hj => ⟨by simp [hj], by simp⟩
    obtain ⟨k1, k2⟩ := e k hk
    refine ⟨fun j hj h2 => ?_, fun h2 => ?_, fun h2 => ?_, fun _ => ⟨fun h2 => ?_, fun h2 => ?_⟩⟩
    · obtain ⟨j1, j2⟩ := e j hj
      rcases h2 with h2 | h2
      · have := h k1 j1 (by rw [j2, k2]; exact h2); omega
      · have := h j1 k1 (by rw [j2, k2]; exact h2); omega
    · have := h (i := k + 2) (k := 0) k1 (by simp) (by rw [k2]; exact h2); omega
    · have := h (i := 0) (k := k + 2) (by simp) k1 (by rw [k2]; exact h2); omega
    · have := h (i := k + 2) (k := 1) k1 (by simp) (by rw [k2]; exact h2); omega
    · have := h (i := 1) (k := k + 2) (by simp) k1 (by rw [k2]; exact h2); omega
/-- a short code is one of the table. -/
theorem shortC_at {p : Int × Int} : ∀ (T : List TabE), shortC p T ≠ [] → ∃ k, ∃ hk : k < T.length, shortC p T = T[k].2 ∧ T[k].1.1 = p.1 ∧ (T[k].1.2 = p.2 ∨ T[k].1.2 = -p.2)
  | [], h => absurd rfl h
  | (q, c) :: T, h => by
    unfold shortC at h ⊢
    split
    · rename_i hq
      simp only [Bool.and_eq_true, Bool.or_eq_true, beq_iff_eq] at hq
      exact ⟨0, by simp, rfl, hq.1, hq.2⟩
    · rename_i hq
      rw [if_neg hq] at h
      obtain ⟨k, hk, h1, h2⟩ := shortC_at T h
      exact ⟨k + 1, by simpa using hk, h1, h2⟩
theorem digL_succ (n m : Nat) : digL n (m + 1) = digL (n / 2) m ++ [if n % 2 = 0 then 48 else 49] := by
  unfold digL
  rw [List.range_succ, List.map_append]
  congr 1
  · apply List.map_congr_left
    intro j hj
    have hj := List.mem_range.1 hj
    have e : m + 1 - 1 - j = (m - 1 - j) + 1 := by omega
    rw [e, Nat.pow_succ, Nat.mul_comm, ← Nat.div_div_eq_div_mul]
  · simp
theorem numS_digL : ∀ (m n : Nat), n < 2 ^ m → numS (digL n m) = n
  | 0, n, h => by simp at h; subst h; rfl
  | m + 1, n, h => by
    rw [digL_succ, numS_snoc', numS_digL m (n / 2) (by rw [Nat.pow_succ] at h; omega)]
    by_cases h2 : n % 2 = 0
    · rw [if_pos h2]; show 2 * (n / 2) + (48 - 48) = n; omega
    · rw [if_neg h2]; show 2 * (n / 2) + (49 - 48) = n; omega
theorem pairB_of {p : Int × Int} (h : pairB p = true) : 0 ≤ p.1 ∧ p.1 ≤ 63 ∧ -127 ≤ p.2 ∧ p.2 ≤ 127 ∧ p.2 ≠ 0 := by
  unfold pairB at h
  simp only [Bool.and_eq_true, decide_eq_true_eq, bne_iff_ne] at h
  exact ⟨h.1.1.1.1, h.1.1.1.2, h.1.1.2, h.1.2, h.2⟩
theorem escP_len (p : Int × Int) : (escP p).length = 20 := by unfold escP; simp [digL_len]; rfl
theorem cget_esc {l : List UInt8} {i : Nat} {first : Bool} {p : Int × Int} (hp : pairB p = true) (h : At l i (escP p)) : cgetP l i first = (p, false, 20, 0) := by
  obtain ⟨p0, p1, p2, p3, p4⟩ := pairB_of hp
  have h1 := h.1
  rw [escP_len] at h1
  unfold cgetP
  rw [if_neg (by omega), if_neg (by omega), Int.toNat_natCast]
  have hw : bitsL l i (min 20 (8 * l.length - i)) = escP p := by
    rw [Nat.min_eq_left (by omega)]
    have := h.2
    rwa [escP_len] at this
  dsimp only
  rw [hw]
  have hs : sameB (escP p) escC = true := sameB_iff.2 (.inr (by unfold escP; rw [List.append_assoc]; exact List.prefix_append _ _))
  have e1 : (escP p).drop 12 = digL (p.2 % 256).toNat 8 := by
    unfold escP
    rw [List.drop_append, List.drop_eq_nil_of_le (by rw [List.length_append, digL_len]; decide)]
    have : 12 - (escC ++ digL p.1.toNat 6).length = 0 := by rw [List.length_append, digL_len]; rfl
    rw [this]; rfl
  have e2 : ((escP p).take 12).drop 6 = digL p.1.toNat 6 := by
    unfold escP
    rw [List.take_append_of_le_length (by rw [List.length_append, digL_len]; decide), List.take_of_length_le (by rw [List.length_append, digL_len]; decide)]
    rw [show (6 : Nat) = escC.length from rfl, List.drop_left]
  rw [if_pos hs, escP_len, if_neg (by decide), e1, e2, numS_digL 8 _ (by omega), numS_digL 6 _ (by omega)]
  have e3 : i8 (p.2 % 256).toNat = p.2 := by unfold i8; split <;> omega
  rw [e3, if_neg (by simp only [Bool.or_eq_true, beq_iff_eq]; omega)]
  have e4 : ((p.1.toNat : Nat) : Int) = p.1 := by omega
  rw [e4]
theorem cget_short {l : List UInt8} {i : Nat} {first : Bool} {p : Int × Int} {k : Nat} (hk : k < (tabL first).length) (hq : (tabL first)[k].1.1 = p.1) (hv : (tabL first)[k].1.2 = p.2 ∨ (tabL first)[k].1.2 = -p.2) (h : At l i ((tabL first)[k].2 ++ (if p.2 < 0 then [49] else [48]))) :
    cgetP l i first = (p, false, ((tabL first)[k].2.length : Int) + 1, 0) := by
  obtain ⟨f1, f2, f3, f4⟩ := tab_free first hk
  have hpos := List.all_eq_true.1 (tab_pos first) _ (List.getElem_mem hk)
  simp only [Bool.and_eq_true, decide_eq_true_eq] at hpos
  obtain ⟨b, hb⟩ : ∃ b : UInt8, (if p.2 < 0 then [(49 : UInt8)] else [48]) = [b] := by split <;> exact ⟨_, rfl⟩
  rw [hb] at h
  have h1 := h.1
  rw [List.length_append] at h1
  have hw := h.window 20 (by rw [List.length_append, List.length_singleton]; omega)
  unfold cgetP
  rw [if_neg (by omega), if_neg (by omega), Int.toNat_natCast]
  dsimp only
  have hc : (tabL first)[k].2 <+: bitsL l i (min 20 (8 * l.length - i)) := (List.prefix_append _ [b]).trans hw
  have he : sameB (bitsL l i (min 20 (8 * l.length - i))) escC = false := by
    rw [← Bool.not_eq_true, sameB_iff]
    rintro (h2 | h2)
    · exact f3 (hc.trans h2)
    · rcases List.prefix_or_prefix_of_prefix h2 hc with h3 | h3
      · exact f2 h3
      · exact f3 h3
  have hn : (!first && endC.isPrefixOf (bitsL l i (min 20 (8 * l.length - i)))) = false := by
    cases first with
    | true => rfl
    | false =>
      obtain ⟨g1, g2⟩ := f4 rfl
      rw [Bool.not_false, Bool.true_and, ← Bool.not_eq_true, List.isPrefixOf_iff_prefix]
      intro h2
      rcases List.prefix_or_prefix_of_prefix h2 hc with h3 | h3
      · exact g1 h3
      · exact g2 h3
  rw [he, hn, if_neg (by decide), if_neg (by decide), lookC_at (b := b) (tabL first) _ k hk f1 hw]
  have e : (if b == 49 then -(tabL first)[k].1.2 else (tabL first)[k].1.2) = p.2 := by
    by_cases hn : p.2 < 0
    · rw [if_pos hn] at hb
      cases hb
      rw [if_pos (by decide)]
      omega
    · rw [if_neg hn] at hb
      cases hb
      rw [if_neg (by decide)]
      omega
  rw [e, hq]
theorem cget_at {l : List UInt8} {i : Nat} {first : Bool} {p : Int × Int} (hp : pairB p = true) (h : At l i (cputP p first)) : cgetP l i first = (p, false, ((cputP p first).length : Int), 0) := by
  unfold cputP at h ⊢
  by_cases hs : shortC p (tabL first) = []
  · rw [if_pos (by simpa using hs)] at h ⊢
    rw [escP_len]
    exact cget_esc hp h
  · rw [if_neg (by simpa using hs)] at h ⊢
    obtain ⟨k, hk, h1, h2, h3⟩ := shortC_at _ hs
    rw [h1] at h ⊢
    rw [cget_short hk h2 h3 h, List.length_append]
    have : (if p.2 < 0 then [(49 : UInt8)] else [48]).length = 1 := by split <;> rfl
    rw [this]
    rfl
theorem cend_at {l : List UInt8} {i : Nat} (h : At l i endC) : cgetP l i false = ((0, 0), true, 2, 0) := by
  have hw := h.window 20 (by decide)
  have h1 := h.1
  unfold cgetP
  rw [if_neg (by omega), if_neg (by omega), Int.toNat_natCast]
  dsimp only
  have he : sameB (bitsL l i (min 20 (8 * l.length - i))) escC = false := by
    rw [← Bool.not_eq_true, sameB_iff]
    rintro (h2 | h2)
    · exact absurd (List.isPrefixOf_iff_prefix.2 (hw.trans h2)) (by decide)
    · rcases List.prefix_or_prefix_of_prefix h2 hw with h3 | h3
      · exact absurd (List.isPrefixOf_iff_prefix.2 h3) (by decide)
      · exact absurd (List.isPrefixOf_iff_prefix.2 h3) (by decide)
  rw [he, if_neg (by decide), Bool.not_false, Bool.true_and, List.isPrefixOf_iff_prefix.2 hw, if_pos rfl]
/-- cut off: what stands there is a beginning of s, and not all of it. -/
theorem cut_get {l : List UInt8} {i : Nat} {s : List UInt8} (h : Cut l i s) (hn : s.length ≤ 20) : ∃ t, bitsL l i (min 20 (8 * l.length - i)) = t ∧ t <+: s ∧ t.length < s.length := by
  have hw := h.window 20 hn
  refine ⟨_, rfl, by rw [hw.1]; exact List.take_prefix _ _, ?_⟩
  rw [hw.1, List.length_take]
  omega
theorem cget_cut {l : List UInt8} {i : Nat} {first : Bool} {p : Int × Int} (h : Cut l i (cputP p first)) : cgetP l i first = ((0, 0), false, 0, 5) := by
  have hi := h.1
  have hlen : (cputP p first).length ≤ 20 := by
    unfold cputP
    split
    · rw [escP_len]; exact Nat.le_refl _
    · rename_i hs
      obtain ⟨k, hk, h1, h2, h3⟩ := shortC_at _ (by simpa using hs)
      have hpos := List.all_eq_true.1 (tab_pos first) _ (List.getElem_mem hk)
      simp only [Bool.and_eq_true, decide_eq_true_eq] at hpos
      rw [h1, List.length_append]
      have : (if p.2 < 0 then [(49 : UInt8)] else [48]).length = 1 := by split <;> rfl
      omega
  obtain ⟨t, ht, h2, h3⟩ := cut_get h hlen
  unfold cgetP
  rw [if_neg (by omega), if_neg (by omega), Int.toNat_natCast]
  dsimp only
  rw [ht]
  have hl20 : t.length < 20 := by omega
  cases he : sameB t escC with
  | true => rw [if_pos rfl, if_pos hl20]
  | false =>
    rw [if_neg (by decide)]
    unfold cputP at h2 h3
    split at h2
    · rename_i hs
      exfalso
      rw [← Bool.not_eq_true, sameB_iff] at he
      apply he
      have h4 : escC <+: escP p := by unfold escP; rw [List.append_assoc]; exact List.prefix_append _ _
      exact List.prefix_or_prefix_of_prefix h2 h4
    · rename_i hs
      rw [if_neg hs] at h3
      obtain ⟨k, hk, h1, _, _⟩ := shortC_at _ (by simpa using hs)
      obtain ⟨f1, f2, f3, f4⟩ := tab_free first hk
      rw [h1] at h2 h3
      have h5 : t <+: (tabL first)[k].2 := by
        rw [List.length_append] at h3
        have : (if p.2 < 0 then [(49 : UInt8)] else [48]).length = 1 := by split <;> rfl
        exact List.prefix_of_prefix_length_le h2 (List.prefix_append _ _) (by omega)
      have hn : (!first && endC.isPrefixOf t) = false := by
        cases first with
        | true => rfl
        | false =>
          rw [Bool.not_false, Bool.true_and, ← Bool.not_eq_true, List.isPrefixOf_iff_prefix]
          exact fun h6 => (f4 rfl).1 (h6.trans h5)
      rw [hn, if_neg (by decide)]
      refine lookC_cut _ _ (fun e he hs => ?_) (.inr ⟨_, List.getElem_mem hk, sameB_iff.2 (.inl h5)⟩)
      rcases sameB_iff.1 hs with h6 | h6
      · exact h6.length_le
      · obtain ⟨j, hj, rfl⟩ := List.getElem_of_mem he
        have := f1 j hj (.inl (h6.trans h5))
        subst this
        exact h5.length_le
theorem cend_cut {l : List UInt8} {i : Nat} (h : Cut l i endC) : cgetP l i false = ((0, 0), false, 0, 5) := by
  have hi := h.1
  obtain ⟨t, ht, h2, h3⟩ := cut_get h (by decide)
  have hl : t.length < 2 := h3
  unfold cgetP
  rw [if_neg (by omega), if_neg (by omega), Int.toNat_natCast]
  dsimp only
  rw [ht]
  cases he : sameB t escC with
  | true => rw [if_pos rfl, if_pos (by omega)]
  | false =>
    rw [if_neg (by decide)]
    have hn : (!false && endC.isPrefixOf t) = false := by
      rw [Bool.not_false, Bool.true_and, ← Bool.not_eq_true, List.isPrefixOf_iff_prefix]
      exact fun h6 => by have := h6.length_le; have e : endC.length = 2 := rfl; omega
    rw [hn, if_neg (by decide), sameB_iff.2 (.inl h2)]
    refine lookC_cut _ _ (fun e he hs => ?_) (.inl rfl)
    have hpos := List.all_eq_true.1 (tab_pos false) _ he
    simp only [Bool.and_eq_true, decide_eq_true_eq] at hpos
    omega
theorem bpairs_succ (l : List UInt8) (f : Nat) (i : Int) (first : Bool) (left : Int) : bpairs l (f + 1) i first left = (if (cgetP l i first).2.1 then ([], i + (cgetP l i first).2.2.1, 0) else if (cgetP l i first).2.2.2 != 0 then ([], 0, (cgetP l i first).2.2.2) else
      if left - ((cgetP l i first).1.1 + 1) < 0 then ([], 0, 11) else
      ((cgetP l i first).1 :: (bpairs l f (i + (cgetP l i first).2.2.1) false (left - ((cgetP l i first).1.1 + 1))).1, (bpairs l f (i + (cgetP l i first).2.2.1) false (left - ((cgetP l i first).1.1 + 1))).2.1, (bpairs l f (i + (cgetP l i first).2.2.1) false (left - ((cgetP l i first).1.1 + 1))).2.2)) := rfl
theorem spread_consB {p : Int × Int} {L : List (Int × Int)} {a : Int} (h0 : 0 ≤ a) (h : spreadP (p :: L) a = 0) : pairB p = true ∧ p.1 ≤ 63 - a ∧ spreadP L (a + p.1 + 1) = 0 := by
  unfold spreadP at h
  split at h
  · cases h
  · rename_i h1
    split at h
    · cases h
    · rename_i h2
      simp only [Bool.or_eq_true, beq_iff_eq, Bool.not_eq_true', not_or, Bool.not_eq_false, Bool.and_eq_true, decide_eq_true_eq, Int.not_lt] at h1 h2
      refine ⟨?_, by omega, h⟩
      unfold pairB
      simp only [Bool.and_eq_true, decide_eq_true_eq, bne_iff_ne]
      exact ⟨⟨⟨⟨h2.1, by omega⟩, h1.2.1⟩, h1.2.2⟩, h1.1⟩
theorem spread_len : ∀ (L : List (Int × Int)) {a : Int}, 0 ≤ a → a ≤ 64 → spreadP L a = 0 → (L.length : Int) ≤ 64 - a
  | [], a, h0, h1, _ => by simp; omega
  | p :: L, a, h0, h1, h => by
    obtain ⟨h2, h3, h4⟩ := spread_consB h0 h
    have h5 := (pairB_of h2).1
    have ih := spread_len L (by omega) (by omega) h4
    rw [List.length_cons]
    omega
theorem bpairs_at {l : List UInt8} : ∀ (L : List (Int × Int)) (f i : Nat) (first : Bool) (a : Int), L.length < f → 0 ≤ a → spreadP L a = 0 → (first = true → L ≠ []) → At l i (cputL L first ++ endC) →
    bpairs l f i first (64 - a) = (L, (i : Int) + ((cputL L first ++ endC).length : Int), 0)
  | [], 0, i, first, a, hf, _, _, _, _ => by simp at hf
  | _ :: _, 0, i, first, a, hf, _, _, _, _ => by simp at hf
  | [], f + 1, i, first, a, hf, h0, hs, hn, h => by
    have hfi : first = false := by cases first with | true => exact absurd rfl (hn rfl) | false => rfl
    subst hfi
    rw [bpairs_succ, cend_at h]
    rfl
  | p :: L, f + 1, i, first, a, hf, h0, hs, hn, h => by
    obtain ⟨h2, h3, h4⟩ := spread_consB h0 hs
    have hc : cputL (p :: L) first ++ endC = cputP p first ++ (cputL L false ++ endC) := by rw [cputL, List.append_assoc]
    rw [hc] at h ⊢
    obtain ⟨h5, h6⟩ := h.app
    rw [bpairs_succ, cget_at h2 h5]
    dsimp only
    have h7 := (pairB_of h2).1
    have ih := bpairs_at L f (i + (cputP p first).length) false (a + p.1 + 1) (by simpa using hf) (by omega) h4 (fun h => by cases h) h6
    have e : (64 : Int) - a - (p.1 + 1) = 64 - (a + p.1 + 1) := by omega
    rw [if_neg (by decide), if_neg (by decide), if_neg (by omega), e, ← Int.natCast_add, ih]
    simp only [List.length_append]
    congr 2
    push_cast
    omega
theorem bpairs_cut {l : List UInt8} : ∀ (L : List (Int × Int)) (f i : Nat) (first : Bool) (a : Int), 0 ≤ a → spreadP L a = 0 → (first = true → L ≠ []) → Cut l i (cputL L first ++ endC) → bpairs l f i first (64 - a) = ([], 0, 5) ∨ (bpairs l f i first (64 - a)).2.2 = 5
  | _, 0, i, first, a, _, _, _, _ => .inl rfl
  | [], f + 1, i, first, a, h0, hs, hn, h => by
    have hfi : first = false := by cases first with | true => exact absurd rfl (hn rfl) | false => rfl
    subst hfi
    rw [bpairs_succ, cend_cut h]
    exact .inl rfl
  | p :: L, f + 1, i, first, a, h0, hs, hn, h => by
    obtain ⟨h2, h3, h4⟩ := spread_consB h0 hs
    have hc : cputL (p :: L) first ++ endC = cputP p first ++ (cputL L false ++ endC) := by rw [cputL, List.append_assoc]
    rw [hc] at h
    rcases h.app with h5 | ⟨h5, h6⟩
    · rw [bpairs_succ, cget_cut h5]
      exact .inl rfl
    · rw [bpairs_succ, cget_at h2 h5]
      dsimp only
      have h7 := (pairB_of h2).1
      have ih := bpairs_cut L f (i + (cputP p first).length) false (a + p.1 + 1) (by omega) h4 (fun h => by cases h) h6
      have e : (64 : Int) - a - (p.1 + 1) = 64 - (a + p.1 + 1) := by omega
      rw [if_neg (by decide), if_neg (by decide), if_neg (by omega), e, ← Int.natCast_add]
      rcases ih with ih | ih
      · right; rw [ih]
      · right; exact ih
end Go.Proofs.YtcojnigkgbmbmaaGreatDoor
namespace Go.Proofs.YtcojnigkgbmbmaaGreatDoor
open Go Go.RowKit
theorem bget_at {l : List UInt8} {i : Nat} {x : BlkM} {intra : Bool} (hx : bchkP x intra = 0) (h : At l i (bputP x intra)) : bgetP l i intra = (x, ((bputP x intra).length : Int), 0) := by
  obtain ⟨dc, L⟩ := x
  have h1 := h.1
  unfold bchkP at hx
  unfold bgetP
  rw [if_neg (by omega), if_neg (by omega)]
  unfold bputP at h h1 ⊢
  dsimp only at *
  cases intra with
  | true =>
    simp only [Bool.not_true, if_true] at h h1 ⊢
    rw [Bool.true_and, Bool.not_true, Bool.false_and, if_neg (show ¬ (false = true) by decide)] at hx
    split at hx
    · cases hx
    · rename_i hd
      simp only [Bool.or_eq_true, decide_eq_true_eq, beq_iff_eq, not_or, Int.not_lt] at hd
      rw [List.append_assoc] at h h1 ⊢
      obtain ⟨h2, h3⟩ := h.app
      rw [List.length_append, digL_len] at h1 ⊢
      rw [digL_len] at h3
      have hn := num_at h2 (by omega)
      have hs := spread_len L (a := 1) (by decide) (by decide) hx
      have hb := bpairs_at L 66 (i + 8) false 1 (by omega) (by decide) hx (fun h => by cases h) h3
      have e8 : ((i : Int) + 8) = ((i + 8 : Nat) : Int) := by omega
      have e63 : (64 : Int) - 1 = 63 := by decide
      rw [e63] at hb
      rw [if_neg (by omega), Int.toNat_natCast, hn, e8, hb]
      dsimp only
      rw [if_neg (by simp only [Bool.or_eq_true, beq_iff_eq]; omega), if_neg (by decide)]
      have e9 : ((dc.toNat : Nat) : Int) = dc := by omega
      rw [e9]
      congr 2
      push_cast
      omega
  | false =>
    simp only [Bool.not_false, Bool.false_eq_true, if_false, List.nil_append] at h h1 ⊢
    rw [Bool.false_and, if_neg (show ¬ (false = true) by decide), Bool.not_false, Bool.true_and] at hx
    split at hx
    · cases hx
    · rename_i hd
      simp only [Bool.or_eq_true, bne_iff_ne, beq_iff_eq, not_or, Decidable.not_not] at hd
      have hs := spread_len L (a := 0) (by decide) (by decide) hx
      have hb := bpairs_at L 66 i true 0 (by omega) (by decide) hx (fun _ => hd.2) h
      rw [Int.sub_zero] at hb
      rw [hb]
      dsimp only
      rw [if_neg (by decide), hd.1]
      congr 2
      omega
theorem bget_cut {l : List UInt8} {i : Nat} {x : BlkM} {intra : Bool} (hx : bchkP x intra = 0) (h : Cut l i (bputP x intra)) : bgetP l i intra = (⟨0, []⟩, 0, 5) := by
  obtain ⟨dc, L⟩ := x
  have h1 := h.1
  unfold bchkP at hx
  unfold bgetP
  rw [if_neg (by omega), if_neg (by omega)]
  unfold bputP at h
  dsimp only at *
  cases intra with
  | true =>
    rw [if_pos rfl] at h
    rw [if_pos rfl]
    rw [Bool.true_and, Bool.not_true, Bool.false_and, if_neg (show ¬ (false = true) by decide)] at hx
    split at hx
    · cases hx
    · rename_i hd
      simp only [Bool.or_eq_true, decide_eq_true_eq, beq_iff_eq, not_or, Int.not_lt] at hd
      rw [List.append_assoc] at h
      rcases h.app with h2 | ⟨h2, h3⟩
      · have := h2.2.1
        rw [digL_len] at this
        rw [if_pos (by omega)]
      · have h4 := h2.1
        rw [digL_len] at h3 h4
        have hn := num_at h2 (by omega)
        have hb := bpairs_cut L 66 (i + 8) false 1 (by decide) hx (fun h => by cases h) h3
        have e8 : ((i : Int) + 8) = ((i + 8 : Nat) : Int) := by omega
        have e63 : (64 : Int) - 1 = 63 := by decide
        rw [e63] at hb
        have hb2 : (bpairs l 66 ((i + 8 : Nat) : Int) false 63).2.2 = 5 := by rcases hb with hb | hb; rw [hb]; exact hb
        rw [if_neg (by omega), Int.toNat_natCast, hn, e8, hb2]
        rw [if_neg (by simp only [Bool.or_eq_true, beq_iff_eq]; omega), if_pos (by decide)]
  | false =>
    rw [if_neg (show ¬ (false = true) by decide), List.nil_append] at h
    rw [if_neg (by decide)]
    rw [Bool.false_and, if_neg (show ¬ (false = true) by decide), Bool.not_false, Bool.true_and] at hx
    split at hx
    · cases hx
    · rename_i hd
      simp only [Bool.or_eq_true, bne_iff_ne, beq_iff_eq, not_or, Decidable.not_not] at hd
      have hb := bpairs_cut L 66 i true 0 (by decide) hx (fun _ => hd.2) h
      rw [Int.sub_zero] at hb
      have hb2 : (bpairs l 66 (i : Int) true 64).2.2 = 5 := by rcases hb with hb | hb; rw [hb]; exact hb
      rw [hb2]
      rw [if_pos (by decide)]
theorem bgets_at {l : List UInt8} {intra : Bool} : ∀ (bl : List BlkM) (i : Nat), (∀ b ∈ bl, bchkP b intra = 0) → i ≤ 8 * l.length → At l i (bl.flatMap fun b => bputP b intra) → bgets l intra bl.length i = (bl, (i : Int) + ((bl.flatMap fun b => bputP b intra).length : Int), 0)
  | [], i, _, _, _ => by simp [bgets]
  | b :: bl, i, hb, hi, h => by
    rw [List.flatMap_cons] at h ⊢
    obtain ⟨h1, h2⟩ := h.app
    have hu : bgets l intra (b :: bl).length i = (if (bgetP l i intra).2.2 != 0 then ([], 0, (bgetP l i intra).2.2) else ((bgetP l i intra).1 :: (bgets l intra bl.length (i + (bgetP l i intra).2.1)).1, (bgets l intra bl.length (i + (bgetP l i intra).2.1)).2.1, (bgets l intra bl.length (i + (bgetP l i intra).2.1)).2.2)) := rfl
    rw [hu, bget_at (hb b (by simp)) h1]
    dsimp only
    have ih := bgets_at bl (i + (bputP b intra).length) (fun c hc => hb c (List.mem_cons_of_mem _ hc)) (by have := h1.1; omega) h2
    rw [if_neg (by decide), ← Int.natCast_add, ih, List.length_append]
    congr 2
    push_cast
    omega
theorem bgets_cut {l : List UInt8} {intra : Bool} : ∀ (bl : List BlkM) (i : Nat), (∀ b ∈ bl, bchkP b intra = 0) → Cut l i (bl.flatMap fun b => bputP b intra) → (bgets l intra bl.length i).2.2 = 5
  | [], i, _, h => absurd h Cut.ne
  | b :: bl, i, hb, h => by
    rw [List.flatMap_cons] at h
    have hu : bgets l intra (b :: bl).length i = (if (bgetP l i intra).2.2 != 0 then ([], 0, (bgetP l i intra).2.2) else ((bgetP l i intra).1 :: (bgets l intra bl.length (i + (bgetP l i intra).2.1)).1, (bgets l intra bl.length (i + (bgetP l i intra).2.1)).2.1, (bgets l intra bl.length (i + (bgetP l i intra).2.1)).2.2)) := rfl
    rw [hu]
    rcases h.app with h1 | ⟨h1, h2⟩
    · rw [bget_cut (hb b (by simp)) h1]
      rfl
    · rw [bget_at (hb b (by simp)) h1]
      dsimp only
      rw [if_neg (by decide), ← Int.natCast_add]
      exact bgets_cut bl (i + (bputP b intra).length) (fun c hc => hb c (List.mem_cons_of_mem _ hc)) h2
theorem codeNum {cs : List (List UInt8)} {lo k : Int} (h1 : lo ≤ k) (h2 : (k - lo).toNat < cs.length) (n : Nat) (hn : cs.length = n) (f : Nat → Int) (hf : f (k - lo).toNat = k) : ((((List.range n).map f)[(k - lo).toNat]?).getD 0 : Int) = k := by
  rw [List.getElem?_map, List.getElem?_range (by omega)]
  exact hf
theorem kind_len : kindC.length = kindN.length := by rw [kindC_len]; rfl
theorem vec_len : vecC.length = vecN.length := by rw [vecC_len]; rfl
theorem pat_len : patC.length = patN.length := by rw [patC_len]; rfl
theorem kindP_get {k : Int} (h : inK k = true) : ∃ j, ∃ hj : j < kindC.length, kindP k = kindC[j] ∧ (kindN[j]?).getD 0 = k := by
  unfold inK at h
  simp only [Bool.and_eq_true, decide_eq_true_eq] at h
  refine ⟨(k - 1).toNat, by rw [kindC_len]; omega, ?_, ?_⟩
  · unfold kindP; rw [codeAt_get h.1 (by rw [kindC_len]; omega)]; rfl
  · exact codeNum (cs := kindC) h.1 (by rw [kindC_len]; omega) 10 kindC_len (fun j => (j : Int) + 1) (by omega)
theorem vecP_num {d : Int} (h1 : -16 ≤ d) (h2 : d ≤ 15) : ∃ j, ∃ hj : j < vecC.length, vecP d = vecC[j] ∧ (vecN[j]?).getD 0 = d := by
  refine ⟨(d - -16).toNat, by rw [vecC_len]; omega, ?_, ?_⟩
  · unfold vecP; rw [codeAt_get h1 (by rw [vecC_len]; omega)]; rfl
  · exact codeNum (cs := vecC) h1 (by rw [vecC_len]; omega) 32 vecC_len (fun j => (j : Int) - 16) (by omega)
theorem patP_get {p : Int} (h1 : 1 ≤ p) (h2 : p ≤ 63) : ∃ j, ∃ hj : j < patC.length, patP p = patC[j] ∧ (patN[j]?).getD 0 = p := by
  refine ⟨(p - 1).toNat, by rw [patC_len]; omega, ?_, ?_⟩
  · unfold patP; rw [codeAt_get h1 (by rw [patC_len]; omega)]; rfl
  · exact codeNum (cs := patC) h1 (by rw [patC_len]; omega) 63 patC_len (fun j => (j : Int) + 1) (by omega)
theorem kind_at {l : List UInt8} {i : Nat} {k : Int} (hk : inK k = true) (h : At l i (kindP k)) : treeR kindC kindN l i = (k, ((kindP k).length : Int), 0) := by
  obtain ⟨j, hj, e1, e2⟩ := kindP_get hk
  rw [e1] at h ⊢
  rw [tree_at kind_free kind_code kind_len j hj h, e2]
theorem kind_cut {l : List UInt8} {i : Nat} {k : Int} (hk : inK k = true) (h : Cut l i (kindP k)) : treeR kindC kindN l i = (0, 0, 5) := by
  obtain ⟨j, hj, e1, e2⟩ := kindP_get hk
  rw [e1] at h
  exact tree_cut kind_free kind_code j hj h
theorem turn_diff {fr to : Int} (h1 : partB fr = true) (h2 : partB to = true) : turnP fr (diffP fr to) = (to, 0) := by
  have hr := diffP_range fr to
  unfold partB at h1 h2
  simp only [Bool.and_eq_true, decide_eq_true_eq] at h1 h2
  unfold turnP
  have e1 : (!partB fr || decide (diffP fr to < -16) || decide (15 < diffP fr to)) = false := by
    unfold partB
    simp only [Bool.or_eq_false_iff, decide_eq_false_iff_not, Bool.not_eq_false', Bool.and_eq_true, decide_eq_true_eq]
    omega
  rw [e1, if_neg (by decide)]
  have pb : ∀ n, partB n = true ↔ (-15 ≤ n ∧ n ≤ 15) := fun n => by unfold partB; simp
  have hd : diffP fr to = to - fr ∨ diffP fr to = to - fr - 32 ∨ diffP fr to = to - fr + 32 := by unfold diffP; omega
  rcases hd with hd | hd | hd
  · have e : fr + diffP fr to = to := by omega
    rw [if_pos ((pb _).2 (by omega)), e]
  · have e : fr + diffP fr to + 32 = to := by omega
    rw [if_neg (fun h => by have := (pb _).1 h; omega), if_pos ((pb _).2 (by omega)), e]
  · have e : fr + diffP fr to - 32 = to := by omega
    rw [if_neg (fun h => by have := (pb _).1 h; omega), if_neg (fun h => by have := (pb _).1 h; omega), if_pos ((pb _).2 (by omega)), e]
theorem vget_at {l : List UInt8} {i : Nat} {pr to : Int} (h1 : partB pr = true) (h2 : partB to = true) (h : At l i (movP pr to)) : vgetP l i pr = (to, (i : Int) + ((movP pr to).length : Int), 0) := by
  have hr := diffP_range pr to
  unfold movP at h ⊢
  obtain ⟨j, hj, e1, e2⟩ := vecP_num hr.1 hr.2
  rw [e1] at h ⊢
  unfold vgetP
  rw [tree_at vec_free vec_code vec_len j hj h, e2]
  dsimp only
  rw [if_neg (by decide), turn_diff h1 h2]
theorem vget_cut {l : List UInt8} {i : Nat} {pr to : Int} (h : Cut l i (movP pr to)) : vgetP l i pr = (0, 0, 5) := by
  have hr := diffP_range pr to
  unfold movP at h
  obtain ⟨j, hj, e1, e2⟩ := vecP_num hr.1 hr.2
  rw [e1] at h
  unfold vgetP
  rw [tree_cut vec_free vec_code j hj h]
  rfl
def mQ (m : MacM) : List UInt8 := if pQ m.kd then digL m.qu.toNat 5 else []
def mV (m : MacM) (a b : Int) : List UInt8 := if pV m.kd then movP a m.x ++ movP b m.y else []
def mC (m : MacM) : List UInt8 := if pC m.kd then patP m.pa else []
def mB (m : MacM) : List UInt8 := m.bl.flatMap fun b => bputP b (pI m.kd)
theorem mputL_parts (m : MacM) (x : LastM) : mputL m x = kindP m.kd ++ (mQ m ++ (mV m (predP m.ad (m.ad - x.ad) x.had x.x x.y).1 (predP m.ad (m.ad - x.ad) x.had x.x x.y).2 ++ (mC m ++ mB m))) := by
  unfold mputL mQ mV mC mB
  simp only [List.append_assoc]
structure MOk (m : MacM) : Prop where
  kd : inK m.kd = true
  a1 : 1 ≤ m.ad
  a2 : m.ad ≤ 33
  px : partB m.x = true
  py : partB m.y = true
  pv : pV m.kd = false → m.x = 0 ∧ m.y = 0
  q1 : pQ m.kd = true → 1 ≤ m.qu ∧ m.qu ≤ 31
  q0 : pQ m.kd = false → m.qu = 0
  i1 : pI m.kd = true → m.pa = 63
  c1 : pI m.kd = false → pC m.kd = true → 1 ≤ m.pa ∧ m.pa ≤ 63
  c0 : pI m.kd = false → pC m.kd = false → m.pa = 0
  len : m.bl.length = cntP m.pa
  bl : ∀ b ∈ m.bl, bchkP b (pI m.kd) = 0
theorem okM_iff (m : MacM) : okM m = true ↔ MOk m := by
  unfold okM
  simp only [Bool.and_eq_true, Bool.or_eq_true, decide_eq_true_eq, beq_iff_eq, List.all_eq_true]
  constructor
  · rintro ⟨⟨⟨⟨⟨⟨⟨⟨⟨a, b⟩, c⟩, d⟩, e⟩, f⟩, g⟩, h⟩, i⟩, j⟩
    refine ⟨a, b, c, d, e, fun h0 => ?_, fun h0 => ?_, fun h0 => ?_, fun h0 => ?_, fun h0 h1 => ?_, fun h0 h1 => ?_, i, j⟩
    · rcases f with f | f
      · rw [h0] at f; cases f
      · exact f
    · rw [h0] at g; simpa using g
    · rw [h0] at g; simpa using g
    · rw [h0] at h; simpa using h
    · rw [h0, h1] at h; simpa using h
    · rw [h0, h1] at h; simpa using h
  · rintro ⟨a, b, c, d, e, f, g, g', h, h1, h2, i, j⟩
    refine ⟨⟨⟨⟨⟨⟨⟨⟨⟨a, b⟩, c⟩, d⟩, e⟩, ?_⟩, ?_⟩, ?_⟩, i⟩, j⟩
    · cases hv : pV m.kd with
      | true => exact .inl rfl
      | false => exact .inr (f hv)
    · cases hq : pQ m.kd with
      | true => simpa using g hq
      | false => simpa using g' hq
    · cases hi : pI m.kd with
      | true => simpa using h hi
      | false =>
        cases hc : pC m.kd with
        | true => simpa using h1 hi hc
        | false => simpa using h2 hi hc
theorem mq_at {l : List UInt8} {i : Nat} {m : MacM} (hm : MOk m) (h : At l i (mQ m)) : mq l m.kd i = (m.qu, (i : Int) + ((mQ m).length : Int), 0) := by
  unfold mq mQ at *
  cases hq : pQ m.kd with
  | true =>
    rw [hq, if_pos rfl] at h
    rw [if_pos rfl, if_pos rfl, digL_len]
    have := hm.q1 hq
    have h1 := h.1
    rw [digL_len] at h1
    have hn := num_at h (by omega)
    rw [if_neg (by omega), Int.toNat_natCast, hn, if_neg (by simp only [beq_iff_eq]; omega)]
    have e : ((m.qu.toNat : Nat) : Int) = m.qu := by omega
    rw [e]; rfl
  | false => rw [if_neg (by decide), if_neg (by decide), hm.q0 hq]; simp
theorem mq_cut {l : List UInt8} {i : Nat} {m : MacM} (h : Cut l i (mQ m)) : (mq l m.kd i).2.2 = 5 := by
  unfold mq mQ at *
  cases hq : pQ m.kd with
  | true =>
    rw [hq, if_pos rfl] at h
    have h1 := h.2.1
    rw [digL_len] at h1
    rw [if_pos rfl, if_pos (by omega)]
  | false => rw [hq, if_neg (by decide)] at h; exact absurd h Cut.ne
theorem mv_at {l : List UInt8} {i : Nat} {m : MacM} {a b : Int} (ha : partB a = true) (hb : partB b = true) (hm : MOk m) (h : At l i (mV m a b)) : mv l m.kd i a b = ((m.x, m.y), (i : Int) + ((mV m a b).length : Int), 0) := by
  unfold mv mV at *
  cases hv : pV m.kd with
  | true =>
    rw [hv, if_pos rfl] at h
    rw [if_pos rfl, if_pos rfl]
    obtain ⟨h1, h2⟩ := h.app
    rw [vget_at ha hm.px h1]
    dsimp only
    rw [if_neg (by decide), ← Int.natCast_add, vget_at hb hm.py h2, List.length_append]
    dsimp only
    rw [if_neg (by decide)]
    congr 2
    push_cast
    omega
  | false =>
    obtain ⟨e1, e2⟩ := hm.pv hv
    rw [if_neg (by decide), if_neg (by decide), e1, e2]
    simp
theorem mv_cut {l : List UInt8} {i : Nat} {m : MacM} {a b : Int} (ha : partB a = true) (hm : MOk m) (h : Cut l i (mV m a b)) : (mv l m.kd i a b).2.2 = 5 := by
  unfold mv mV at *
  cases hv : pV m.kd with
  | true =>
    rw [hv, if_pos rfl] at h
    rw [if_pos rfl]
    rcases h.app with h1 | ⟨h1, h2⟩
    · rw [vget_cut h1]; rfl
    · rw [vget_at ha hm.px h1]
      dsimp only
      rw [if_neg (by decide), ← Int.natCast_add, vget_cut h2]
      rfl
  | false => rw [hv, if_neg (by decide)] at h; exact absurd h Cut.ne
theorem pIC' {k : Int} (h : pC k = true) : pI k = false := by
  unfold pC at h
  unfold pI
  simp only [Bool.or_eq_true, beq_iff_eq] at h
  rcases h with ((((h | h) | h) | h) | h) | h <;> subst h <;> rfl
theorem mc_at {l : List UInt8} {i : Nat} {m : MacM} (hm : MOk m) (h : At l i (mC m)) : mc l m.kd i = (m.pa, (i : Int) + ((mC m).length : Int), 0) := by
  unfold mc mC at *
  cases hc : pC m.kd with
  | true =>
    rw [hc, if_pos rfl] at h
    rw [if_pos rfl, if_pos rfl]
    have hp := hm.c1 (pIC' hc) hc
    obtain ⟨j, hj, e1, e2⟩ := patP_get hp.1 hp.2
    rw [e1] at h ⊢
    rw [tree_at pat_free pat_code pat_len j hj h, e2]
    rfl
  | false =>
    simp only [Bool.false_eq_true, if_false]
    cases hi : pI m.kd with
    | true => rw [hm.i1 hi]; simp
    | false => rw [hm.c0 hi hc]; simp
theorem mc_cut {l : List UInt8} {i : Nat} {m : MacM} (hm : MOk m) (h : Cut l i (mC m)) : (mc l m.kd i).2.2 = 5 := by
  unfold mc mC at *
  cases hc : pC m.kd with
  | true =>
    rw [hc, if_pos rfl] at h
    rw [if_pos rfl]
    have hp := hm.c1 (pIC' hc) hc
    obtain ⟨j, hj, e1, e2⟩ := patP_get hp.1 hp.2
    rw [e1] at h
    rw [tree_cut pat_free pat_code j hj h]
    rfl
  | false => rw [hc, if_neg (by decide)] at h; exact absurd h Cut.ne
theorem pred_part {x : LastM} {ad : Int} (h : aheadB x ad = true) : partB (predP ad (ad - x.ad) x.had x.x x.y).1 = true ∧ partB (predP ad (ad - x.ad) x.had x.x x.y).2 = true := by
  unfold aheadB at h
  simp only [Bool.and_eq_true] at h
  unfold predP
  split
  · exact ⟨rfl, rfl⟩
  · exact ⟨h.1.1.2, h.1.2⟩
theorem mget_at {l : List UInt8} {i : Nat} {m : MacM} {x : LastM} (hm : MOk m) (hx : aheadB x m.ad = true) (h : At l i (mputL m x)) : mgetP l i m.ad x = (m, ((mputL m x).length : Int), 0) := by
  have hp := pred_part hx
  have hm1 := hm.a1; have hm2 := hm.a2
  rw [mputL_parts] at h ⊢
  unfold mgetP
  rw [if_neg (by omega), hx]
  rw [if_neg (by decide)]
  generalize predP m.ad (m.ad - x.ad) x.had x.x x.y = pr at *
  dsimp only
  obtain ⟨h1, h⟩ := h.app
  obtain ⟨h2, h⟩ := h.app
  obtain ⟨h3, h⟩ := h.app
  obtain ⟨h4, h5⟩ := h.app
  rw [kind_at hm.kd h1]
  dsimp only
  rw [if_neg (by decide), ← Int.natCast_add, mq_at hm h2]
  dsimp only
  rw [if_neg (by decide), ← Int.natCast_add, mv_at hp.1 hp.2 hm h3]
  dsimp only
  rw [if_neg (by decide), ← Int.natCast_add, mc_at hm h4]
  dsimp only
  have h6 := bgets_at m.bl (i + (kindP m.kd).length + (mQ m).length + (mV m pr.1 pr.2).length + (mC m).length) hm.bl (by have := h5.1; omega) h5
  rw [if_neg (by decide), ← Int.natCast_add, ← hm.len, h6]
  dsimp only
  rw [if_neg (by decide)]
  have e : (mB m) = m.bl.flatMap fun b => bputP b (pI m.kd) := rfl
  simp only [List.length_append]
  rw [← e]
  obtain ⟨ad, kd, qu, mx, my, pa, bl⟩ := m
  congr 2
  push_cast
  omega
theorem mget_cut {l : List UInt8} {i : Nat} {m : MacM} {x : LastM} (hm : MOk m) (hx : aheadB x m.ad = true) (h : Cut l i (mputL m x)) : mgetP l i m.ad x = (m0, 0, 5) := by
  have hp := pred_part hx
  have hm1 := hm.a1; have hm2 := hm.a2
  rw [mputL_parts] at h
  unfold mgetP
  rw [if_neg (by omega), hx]
  rw [if_neg (by decide)]
  generalize predP m.ad (m.ad - x.ad) x.had x.x x.y = pr at *
  dsimp only
  rcases h.app with h1 | ⟨h1, h⟩
  · rw [kind_cut hm.kd h1]; rfl
  rw [kind_at hm.kd h1]
  dsimp only
  rw [if_neg (by decide), ← Int.natCast_add]
  rcases h.app with h2 | ⟨h2, h⟩
  · rw [mq_cut h2]; rfl
  rw [mq_at hm h2]
  dsimp only
  rw [if_neg (by decide), ← Int.natCast_add]
  rcases h.app with h3 | ⟨h3, h⟩
  · rw [mv_cut hp.1 hm h3]; rfl
  rw [mv_at hp.1 hp.2 hm h3]
  dsimp only
  rw [if_neg (by decide), ← Int.natCast_add]
  rcases h.app with h4 | ⟨h4, h5⟩
  · rw [mc_cut hm h4]; rfl
  rw [mc_at hm h4]
  dsimp only
  have h6 := bgets_cut m.bl (i + (kindP m.kd).length + (mQ m).length + (mV m pr.1 pr.2).length + (mC m).length) hm.bl h5
  rw [if_neg (by decide), ← Int.natCast_add, ← hm.len, h6]
  rfl
end Go.Proofs.YtcojnigkgbmbmaaGreatDoor
