/- layers 17 to 19: what is got may be, and is put in no more bits. No condition. -/
import Derived.Test.YtcojnigkgbmbmaaGreatDoorK06
namespace Go.Proofs.YtcojnigkgbmbmaaGreatDoor
open Go Go.RowKit
theorem lookC_in {s : List UInt8} : ∀ (T : List TabE) (more : Bool), (lookC s T more).2.2.2 = 0 → ∃ k, ∃ hk : k < T.length, ((lookC s T more).1 = (T[k].1.1, T[k].1.2) ∨ (lookC s T more).1 = (T[k].1.1, -T[k].1.2)) ∧ (lookC s T more).2.1 = false ∧ (lookC s T more).2.2.1 = (T[k].2.length : Int) + 1 ∧ T[k].2.length + 1 ≤ s.length
  | [], more, h => by
    have e : (lookC s [] more).2.2.2 = if more then 5 else 7 := rfl
    rw [e] at h
    cases more <;> cases h
  | (p, c) :: T, more, h => by
    cases hs : sameB s c with
    | false =>
      rw [lookC_no' hs] at h ⊢
      obtain ⟨k, hk, h1⟩ := lookC_in T more h
      exact ⟨k + 1, by simpa using hk, h1⟩
    | true =>
      by_cases hl : s.length ≤ c.length
      · rw [lookC_short' hs hl] at h ⊢
        obtain ⟨k, hk, h1⟩ := lookC_in T true h
        exact ⟨k + 1, by simpa using hk, h1⟩
      · rw [lookC_hit' hs hl]
        refine ⟨0, by simp, ?_, rfl, rfl, by show c.length + 1 ≤ _; omega⟩
        dsimp only
        split
        · exact .inr rfl
        · exact .inl rfl
theorem tab_keys (first : Bool) : (List.range (tabL first).length).all (fun i => (List.range (tabL first).length).all fun k => i == k || ((tabL first).getD i ((0, 0), [])).1 != ((tabL first).getD k ((0, 0), [])).1) = true := by cases first <;> kernel_rfl
theorem tab_key {first : Bool} {i k : Nat} (hi : i < (tabL first).length) (hk : k < (tabL first).length) (h : (tabL first)[i].1 = (tabL first)[k].1) : i = k := by
  have h1 := List.all_eq_true.1 (List.all_eq_true.1 (tab_keys first) i (List.mem_range.2 hi)) k (List.mem_range.2 hk)
  have e1 : (tabL first).getD i ((0, 0), []) = (tabL first)[i] := by simp [List.getD, hi]
  have e2 : (tabL first).getD k ((0, 0), []) = (tabL first)[k] := by simp [List.getD, hk]
  rw [e1, e2, Bool.or_eq_true] at h1
  rcases h1 with h1 | h1
  · exact beq_iff_eq.1 h1
  · rw [bne_iff_ne] at h1; exact absurd h h1
theorem tab_range (first : Bool) : (tabL first).all (fun x => decide (0 ≤ x.1.1) && decide (x.1.1 ≤ 63) && decide (1 ≤ x.1.2) && decide (x.1.2 ≤ 127)) = true := by cases first <;> kernel_rfl
theorem sign_len (v : Int) : (if v < 0 then [(49 : UInt8)] else [48]).length = 1 := by split <;> rfl
theorem cput_le (p : Int × Int) (first : Bool) : (cputP p first).length ≤ 20 := by
  unfold cputP
  split
  · rw [escP_len]; exact Nat.le_refl _
  · rename_i hs
    obtain ⟨k, hk, h1, h2, h3⟩ := shortC_at _ (by simpa using hs)
    have hpos := List.all_eq_true.1 (tab_pos first) _ (List.getElem_mem hk)
    simp only [Bool.and_eq_true, decide_eq_true_eq] at hpos
    rw [h1, List.length_append, sign_len]
    omega
theorem shortC_some {p : Int × Int} : ∀ (T : List TabE), (∀ e ∈ T, 1 ≤ e.2.length) → ∀ k (hk : k < T.length), T[k].1.1 = p.1 → (T[k].1.2 = p.2 ∨ T[k].1.2 = -p.2) → shortC p T ≠ []
  | [], _, k, hk, _, _ => by simp at hk
  | (q, c) :: T, ha, k, hk, h1, h2 => by
    unfold shortC
    split
    · have := ha (q, c) (by simp)
      intro h
      rw [h] at this
      simp at this
    · rename_i hq
      cases k with
      | zero => exact absurd (by simp only [Bool.and_eq_true, Bool.or_eq_true, beq_iff_eq]; exact ⟨h1, h2⟩) hq
      | succ k => exact shortC_some T (fun e he => ha e (List.mem_cons_of_mem _ he)) k (by simpa using hk) h1 h2
/-- a pair of the table is put with its code. -/
theorem cput_tab {first : Bool} {p : Int × Int} {k : Nat} (hk : k < (tabL first).length) (h1 : (tabL first)[k].1.1 = p.1) (h2 : (tabL first)[k].1.2 = p.2 ∨ (tabL first)[k].1.2 = -p.2) : (cputP p first).length = (tabL first)[k].2.length + 1 := by
  have hne := shortC_some (tabL first) (fun e he => by have hpos := List.all_eq_true.1 (tab_pos first) _ he; simp only [Bool.and_eq_true, decide_eq_true_eq] at hpos; omega) k hk h1 h2
  obtain ⟨j, hj, e1, e2, e3⟩ := shortC_at _ hne
  have r1 := List.all_eq_true.1 (tab_range first) _ (List.getElem_mem hj)
  have r2 := List.all_eq_true.1 (tab_range first) _ (List.getElem_mem hk)
  simp only [Bool.and_eq_true, decide_eq_true_eq] at r1 r2
  have : j = k := tab_key hj hk (Prod.ext (by omega) (by omega))
  subst this
  unfold cputP
  rw [if_neg (by simpa using hne), e1, List.length_append, sign_len]
theorem bitsL_or' (l : List UInt8) (i n : Nat) : ∀ c ∈ bitsL l i n, c = 48 ∨ c = 49 := bitsL_or l i n
theorem numS_bnd : ∀ (s : List UInt8) (n : Nat), s.length = n → (∀ c ∈ s, c = 48 ∨ c = 49) → numS s < 2 ^ n := by
  intro s n
  induction n generalizing s with
  | zero => intro hn _; rw [List.length_eq_zero_iff.1 hn]; decide
  | succ n ih =>
    intro hn h
    have hne : s ≠ [] := by intro e; rw [e] at hn; cases hn
    have e := List.dropLast_concat_getLast hne
    rw [← e, numS_snoc']
    have h1 := ih s.dropLast (by rw [List.length_dropLast, hn]; rfl) (fun c hc => h c (List.dropLast_subset s hc))
    have h2 : (s.getLast hne).toNat - 48 ≤ 1 := by
      rcases h _ (List.getLast_mem hne) with h | h <;> rw [h] <;> decide
    rw [Nat.pow_succ]
    omega
theorem cget_got {l : List UInt8} {i : Int} {first : Bool} (h0 : 0 ≤ i) (h1 : i ≤ 8 * (l.length : Int)) (he : (cgetP l i first).2.2.2 = 0) :
    i + (cgetP l i first).2.2.1 ≤ 8 * (l.length : Int) ∧ ((cgetP l i first).2.1 = true ∧ first = false ∧ (cgetP l i first).2.2.1 = 2 ∨ (cgetP l i first).2.1 = false ∧ pairB (cgetP l i first).1 = true ∧ ((cputP (cgetP l i first).1 first).length : Int) ≤ (cgetP l i first).2.2.1) := by
  unfold cgetP at he ⊢
  rw [if_neg (by omega), if_neg (by omega)] at he ⊢
  dsimp only at he ⊢
  have hlen : (bitsL l i.toNat (min 20 (8 * l.length - i.toNat))).length ≤ 8 * l.length - i.toNat := by rw [bitsL_length]; omega
  have hl20 : (bitsL l i.toNat (min 20 (8 * l.length - i.toNat))).length ≤ 20 := by rw [bitsL_length]; omega
  have hor := bitsL_or l i.toNat (min 20 (8 * l.length - i.toNat))
  generalize bitsL l i.toNat (min 20 (8 * l.length - i.toNat)) = s at hlen hor hl20 he ⊢
  generalize hm : 8 * l.length - i.toNat = mm at hlen
  split at he
  · rename_i h2
    rw [if_pos h2]
    split at he
    · cases he
    · rename_i h3
      rw [if_neg h3]
      split at he
      · cases he
      · rename_i h4
        rw [if_neg h4]
        dsimp only
        have h6 := numS_bnd ((s.take 12).drop 6) 6 (by simp; omega) (fun c hc => hor c (List.mem_of_mem_take (List.mem_of_mem_drop hc)))
        have h8 := numS_bnd (s.drop 12) 8 (by simp; omega) (fun c hc => hor c (List.mem_of_mem_drop hc))
        simp only [Bool.or_eq_true, beq_iff_eq, not_or] at h4
        refine ⟨by omega, .inr ⟨rfl, ?_, ?_⟩⟩
        · unfold pairB
          simp only [Bool.and_eq_true, decide_eq_true_eq, bne_iff_ne]
          have hb : ∀ n : Nat, n < 256 → i8 n ≠ 0 → i8 n ≠ -128 → -127 ≤ i8 n ∧ i8 n ≤ 127 ∧ i8 n ≠ 0 := fun n hn a b => by unfold i8 at *; split at * <;> omega
          have := hb _ (by omega) h4.1 h4.2
          generalize numS ((s.take 12).drop 6) = a at h6
          refine ⟨⟨⟨⟨by omega, by omega⟩, this.1⟩, this.2.1⟩, this.2.2⟩
        · have := cput_le (((numS ((s.take 12).drop 6) : Nat) : Int), i8 (numS (s.drop 12))) first
          omega
  · rename_i h2
    rw [if_neg h2]
    split at he
    · rename_i h3
      rw [if_pos h3]
      simp only [Bool.and_eq_true, Bool.not_eq_true'] at h3
      have h4 := (List.isPrefixOf_iff_prefix.1 h3.2).length_le
      have e : endC.length = 2 := rfl
      exact ⟨by show i + 2 ≤ _; omega, .inl ⟨rfl, h3.1, rfl⟩⟩
    · rename_i h3
      rw [if_neg h3]
      obtain ⟨k, hk, k1, k2, k3, k4⟩ := lookC_in _ _ he
      have r2 := List.all_eq_true.1 (tab_range first) _ (List.getElem_mem hk)
      simp only [Bool.and_eq_true, decide_eq_true_eq] at r2
      have hp : ∃ p, (lookC s (tabL first) (!first && sameB s endC)).1 = p ∧ (tabL first)[k].1.1 = p.1 ∧ ((tabL first)[k].1.2 = p.2 ∨ (tabL first)[k].1.2 = -p.2) := by
        rcases k1 with k1 | k1
        · exact ⟨_, rfl, by rw [k1], .inl (by rw [k1])⟩
        · exact ⟨_, rfl, by rw [k1], .inr (by rw [k1]; simp)⟩
      obtain ⟨p, ep, p1, p2⟩ := hp
      rw [k2, k3, ep]
      refine ⟨by omega, .inr ⟨rfl, ?_, ?_⟩⟩
      · unfold pairB
        simp only [Bool.and_eq_true, decide_eq_true_eq, bne_iff_ne]
        refine ⟨⟨⟨⟨by omega, by omega⟩, by omega⟩, by omega⟩, by omega⟩
      · rw [cput_tab hk p1 p2]
        omega
theorem spread_put {p : Int × Int} {L : List (Int × Int)} {a : Int} (h : pairB p = true) (h1 : p.1 ≤ 63 - a) (h2 : spreadP L (a + p.1 + 1) = 0) : spreadP (p :: L) a = 0 := by
  obtain ⟨p0, p1, p2, p3, p4⟩ := pairB_of h
  unfold spreadP
  rw [if_neg, if_neg, h2]
  · simp only [Bool.or_eq_true, decide_eq_true_eq]; omega
  · simp only [Bool.or_eq_true, beq_iff_eq, Bool.not_eq_true', Bool.and_eq_false_iff, decide_eq_false_iff_not]; omega
theorem bpairs_got {l : List UInt8} : ∀ (f : Nat) (i : Int) (first : Bool) (a : Int), 0 ≤ i → i ≤ 8 * (l.length : Int) → 0 ≤ a → (bpairs l f i first (64 - a)).2.2 = 0 →
    spreadP (bpairs l f i first (64 - a)).1 a = 0 ∧ (first = true → (bpairs l f i first (64 - a)).1 ≠ []) ∧ i + ((cputL (bpairs l f i first (64 - a)).1 first ++ endC).length : Int) ≤ (bpairs l f i first (64 - a)).2.1 ∧ (bpairs l f i first (64 - a)).2.1 ≤ 8 * (l.length : Int)
  | 0, i, first, a, _, _, _, h => by cases h
  | f + 1, i, first, a, h0, h1, ha, h => by
    rw [bpairs_succ] at h ⊢
    by_cases he : (cgetP l i first).2.2.2 = 0
    · obtain ⟨hb, hg⟩ := cget_got h0 h1 he
      rcases hg with ⟨g1, g2, g3⟩ | ⟨g1, g2, g3⟩
      · rw [if_pos g1] at h ⊢
        subst g2
        dsimp only
        rw [g3] at hb ⊢
        exact ⟨rfl, (fun h => by cases h), (by show i + ((endC.length : Nat) : Int) ≤ i + 2; have e : endC.length = 2 := rfl; omega), hb⟩
      · rw [if_neg (by rw [g1]; decide), if_neg (by rw [he]; decide)] at h ⊢
        split at h
        · cases h
        · rename_i hl
          rw [if_neg hl]
          dsimp only at h ⊢
          have hp := pairB_of g2
          have e : (64 : Int) - a - ((cgetP l i first).1.1 + 1) = 64 - (a + (cgetP l i first).1.1 + 1) := by omega
          rw [e] at h ⊢
          have hpos : (0 : Int) ≤ ((cputP (cgetP l i first).1 first).length : Int) := by omega
          obtain ⟨i1, i2, i3, i4⟩ := bpairs_got f (i + (cgetP l i first).2.2.1) false (a + (cgetP l i first).1.1 + 1) (by omega) (by omega) (by omega) h
          refine ⟨spread_put g2 (by omega) i1, (fun _ h => by cases h), ?_, i4⟩
          rw [cputL, List.append_assoc, List.length_append]
          push_cast
          omega
    · exfalso
      by_cases h2 : (cgetP l i first).2.1 = true
      · have : (cgetP l i first).2.2.2 = 0 := by
          unfold cgetP at h2 ⊢
          rw [if_neg (by omega), if_neg (by omega)] at h2 ⊢
          dsimp only at h2 ⊢
          split at h2
          · split at h2
            · cases h2
            · split at h2 <;> cases h2
          · rename_i q1
            split at h2
            · rename_i q2; rw [if_neg q1, if_pos q2]
            · exfalso
              have hn : ∀ (T : List TabE) (more : Bool) (s : List UInt8), (lookC s T more).2.1 = false := fun T => by
                induction T with
                | nil => intro more s; rfl
                | cons e T ih =>
                  intro more s
                  show (if !sameB s e.2 then lookC s T more else if s.length ≤ e.2.length then lookC s T true else _).2.1 = false
                  split
                  · exact ih _ _
                  · split
                    · exact ih _ _
                    · rfl
              rw [hn] at h2
              cases h2
        exact he this
      · rw [if_neg h2, if_pos (by simpa using he)] at h
        exact he h
theorem bget_got {l : List UInt8} {i : Int} {intra : Bool} (h0 : 0 ≤ i) (h1 : i ≤ 8 * (l.length : Int)) (he : (bgetP l i intra).2.2 = 0) :
    bchkP (bgetP l i intra).1 intra = 0 ∧ ((bputP (bgetP l i intra).1 intra).length : Int) ≤ (bgetP l i intra).2.1 ∧ i + (bgetP l i intra).2.1 ≤ 8 * (l.length : Int) := by
  unfold bgetP at he ⊢
  rw [if_neg (by omega), if_neg (by omega)] at he ⊢
  cases intra with
  | true =>
    simp only [if_true] at he ⊢
    split at he
    · cases he
    · rename_i h8
      rw [if_neg h8]
      split at he
      · cases he
      · rename_i hn
        rw [if_neg hn]
        have hlt : numN l i.toNat 8 < 256 := numN_lt l i.toNat 8
        simp only [Bool.or_eq_true, beq_iff_eq, not_or] at hn
        by_cases hq : (bpairs l 66 (i + 8) false 63).2.2 = 0
        · rw [hq, if_neg (by decide)]
          have e63 : (63 : Int) = 64 - 1 := by decide
          rw [e63] at hq ⊢
          obtain ⟨i1, i2, i3, i4⟩ := bpairs_got 66 (i + 8) false 1 (by omega) (by omega) (by decide) hq
          dsimp only
          refine ⟨?_, ?_, by omega⟩
          · unfold bchkP
            rw [if_neg, if_neg (by rw [Bool.not_true, Bool.false_and]; decide)]
            · exact i1
            · simp only [Bool.true_and, Bool.or_eq_true, decide_eq_true_eq, beq_iff_eq]; omega
          · unfold bputP
            simp only [if_true, Bool.not_true]
            rw [List.append_assoc, List.length_append, digL_len]
            rw [show (64 : Int) - 1 = 63 from rfl] at i3 ⊢
            push_cast
            omega
        · rw [if_pos (by simpa using hq)] at he
          exact absurd he hq
  | false =>
    simp only [Bool.false_eq_true, if_false] at he ⊢
    by_cases hq : (bpairs l 66 i true 64).2.2 = 0
    · rw [hq, if_neg (by decide)]
      have e64 : (64 : Int) = 64 - 0 := by decide
      rw [e64] at hq ⊢
      obtain ⟨i1, i2, i3, i4⟩ := bpairs_got 66 i true 0 (by omega) (by omega) (by decide) hq
      dsimp only
      refine ⟨?_, ?_, by omega⟩
      · unfold bchkP
        rw [if_neg (by rw [Bool.false_and]; decide), if_neg]
        · exact i1
        · simp only [Bool.not_false, Bool.true_and, Bool.or_eq_true, bne_iff_ne, beq_iff_eq]
          rintro (h | h)
          · exact h rfl
          · exact i2 rfl h
      · unfold bputP
        simp only [Bool.false_eq_true, if_false, Bool.not_false, List.nil_append]
        omega
    · rw [if_pos (by simpa using hq)] at he
      exact absurd he hq
end Go.Proofs.YtcojnigkgbmbmaaGreatDoor
