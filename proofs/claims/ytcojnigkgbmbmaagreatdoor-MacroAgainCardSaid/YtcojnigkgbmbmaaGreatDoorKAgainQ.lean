/- layer 19: what is got may be, and is put in no more bits. No condition. -/
import Derived.Test.YtcojnigkgbmbmaaGreatDoorKAgainP
namespace Go.Proofs.YtcojnigkgbmbmaaGreatDoor
open Go Go.RowKit
theorem bgets_got {l : List UInt8} {intra : Bool} : ∀ (k : Nat) (i : Int), 0 ≤ i → i ≤ 8 * (l.length : Int) → (bgets l intra k i).2.2 = 0 →
    (bgets l intra k i).1.length = k ∧ (∀ b ∈ (bgets l intra k i).1, bchkP b intra = 0) ∧ i + (((bgets l intra k i).1.flatMap fun b => bputP b intra).length : Int) ≤ (bgets l intra k i).2.1 ∧ (bgets l intra k i).2.1 ≤ 8 * (l.length : Int)
  | 0, i, h0, h1, _ => by simp [bgets]; omega
  | k + 1, i, h0, h1, h => by
    have hu : bgets l intra (k + 1) i = (if (bgetP l i intra).2.2 != 0 then ([], 0, (bgetP l i intra).2.2) else ((bgetP l i intra).1 :: (bgets l intra k (i + (bgetP l i intra).2.1)).1, (bgets l intra k (i + (bgetP l i intra).2.1)).2.1, (bgets l intra k (i + (bgetP l i intra).2.1)).2.2)) := rfl
    rw [hu] at h ⊢
    by_cases he : (bgetP l i intra).2.2 = 0
    · rw [if_neg (by rw [he]; decide)] at h ⊢
      obtain ⟨b1, b2, b3⟩ := bget_got h0 h1 he
      obtain ⟨i1, i2, i3, i4⟩ := bgets_got k (i + (bgetP l i intra).2.1) (by omega) (by omega) h
      refine ⟨by rw [List.length_cons, i1], fun b hb => ?_, ?_, i4⟩
      · rcases List.mem_cons.1 hb with rfl | hb
        · exact b1
        · exact i2 b hb
      · dsimp only
        rw [List.flatMap_cons, List.length_append]
        push_cast
        omega
    · rw [if_pos (by simpa using he)] at h
      exact absurd h he
theorem findR_got {s : List UInt8} : ∀ {cs : List (List UInt8)} {ns : List Int} {n k : Int}, findR s cs ns = some (n, k) → ∃ j, ∃ hj : j < cs.length, ns[j]? = some n ∧ k = cs[j].length
  | [], _, _, _, h => by simp [findR] at h
  | _ :: _, [], _, _, h => by simp [findR] at h
  | c :: cs, m :: ns, n, k, h => by
    unfold findR at h
    split at h
    · simp only [Option.some.injEq, Prod.mk.injEq] at h
      exact ⟨0, by simp, by simp [h.1], h.2.symm⟩
    · obtain ⟨j, hj, a, b⟩ := findR_got h
      exact ⟨j + 1, by simpa using hj, by simpa using a, by simpa using b⟩
theorem tree_got {cs : List (List UInt8)} {ns : List Int} {l : List UInt8} {i : Int} (he : (treeR cs ns l i).2.2 = 0) : ∃ j, ∃ hj : j < cs.length, ns[j]? = some (treeR cs ns l i).1 ∧ (treeR cs ns l i).2.1 = cs[j].length := by
  unfold treeR at he ⊢
  split at he
  · cases he
  · rename_i h0
    rw [if_neg h0]
    unfold getT at he ⊢
    cases hf : findR (bitsL l i.toNat (min 24 (8 * l.length - i.toNat))) cs ns with
    | some p => obtain ⟨n, k⟩ := p; exact findR_got hf
    | none =>
      rw [hf] at he
      dsimp only at he
      split at he <;> cases he
theorem findR_len {s : List UInt8} : ∀ {cs : List (List UInt8)} {ns : List Int} {n k : Int}, findR s cs ns = some (n, k) → k ≤ s.length
  | [], _, _, _, h => by simp [findR] at h
  | _ :: _, [], _, _, h => by simp [findR] at h
  | c :: cs, m :: ns, n, k, h => by
    unfold findR at h
    split at h
    · rename_i hp
      have hle := (List.isPrefixOf_iff_prefix.1 hp).length_le
      simp only [Option.some.injEq, Prod.mk.injEq] at h
      omega
    · exact findR_len h
theorem tree_end {cs : List (List UInt8)} {ns : List Int} {l : List UInt8} {i : Int} (h0 : 0 ≤ i) (h1 : i ≤ 8 * (l.length : Int)) (he : (treeR cs ns l i).2.2 = 0) : i + (treeR cs ns l i).2.1 ≤ 8 * (l.length : Int) := by
  unfold treeR at he ⊢
  rw [if_neg (by omega)] at he ⊢
  unfold getT at he ⊢
  have hl : (bitsL l i.toNat (min 24 (8 * l.length - i.toNat))).length ≤ 8 * l.length - i.toNat := by rw [bitsL_length]; omega
  cases hf : findR (bitsL l i.toNat (min 24 (8 * l.length - i.toNat))) cs ns with
  | some p =>
    obtain ⟨n, k⟩ := p
    have := findR_len hf
    show i + k ≤ _
    omega
  | none =>
    rw [hf] at he
    dsimp only at he
    split at he <;> cases he
theorem range_get {n j : Nat} {f : Nat → Int} {k : Int} (h : ((List.range n).map f)[j]? = some k) : j < n ∧ f j = k := by
  rw [List.getElem?_map] at h
  by_cases hj : j < n
  · rw [List.getElem?_range hj] at h
    exact ⟨hj, by simpa using h⟩
  · rw [List.getElem?_eq_none (by simpa using Nat.le_of_not_lt hj)] at h
    cases h
theorem codeAt_j {cs : List (List UInt8)} {lo k : Int} {j : Nat} (hj : j < cs.length) (h : k - lo = (j : Int)) : (codeAt cs lo k).getD [] = cs[j] := by
  unfold codeAt
  rw [if_neg (by omega), h, Int.toNat_natCast, List.getElem?_eq_getElem hj]
  rfl
theorem kind_got {l : List UInt8} {i : Int} (he : (treeR kindC kindN l i).2.2 = 0) : inK (treeR kindC kindN l i).1 = true ∧ (treeR kindC kindN l i).2.1 = (kindP (treeR kindC kindN l i).1).length ∧ 1 ≤ (treeR kindC kindN l i).2.1 := by
  obtain ⟨j, hj, h1, h2⟩ := tree_got he
  obtain ⟨h3, h4⟩ := range_get h1
  have h5 : kindP (treeR kindC kindN l i).1 = kindC[j] := by unfold kindP; exact codeAt_j hj (by omega)
  have h6 := code_le kind_code j hj
  rw [h5, h2]
  refine ⟨?_, rfl, by omega⟩
  unfold inK
  simp only [Bool.and_eq_true, decide_eq_true_eq]
  omega
theorem vec_got {l : List UInt8} {i : Int} (he : (treeR vecC vecN l i).2.2 = 0) : (treeR vecC vecN l i).2.1 = (vecP (treeR vecC vecN l i).1).length ∧ -16 ≤ (treeR vecC vecN l i).1 ∧ (treeR vecC vecN l i).1 ≤ 15 := by
  obtain ⟨j, hj, h1, h2⟩ := tree_got he
  obtain ⟨h3, h4⟩ := range_get h1
  have h5 : vecP (treeR vecC vecN l i).1 = vecC[j] := by unfold vecP; exact codeAt_j hj (by omega)
  rw [h5, h2]
  exact ⟨rfl, by omega, by omega⟩
theorem pat_got {l : List UInt8} {i : Int} (he : (treeR patC patN l i).2.2 = 0) : (treeR patC patN l i).2.1 = (patP (treeR patC patN l i).1).length ∧ 1 ≤ (treeR patC patN l i).1 ∧ (treeR patC patN l i).1 ≤ 63 := by
  obtain ⟨j, hj, h1, h2⟩ := tree_got he
  obtain ⟨h3, h4⟩ := range_get h1
  have h5 : patP (treeR patC patN l i).1 = patC[j] := by unfold patP; exact codeAt_j hj (by omega)
  rw [h5, h2]
  exact ⟨rfl, by omega, by omega⟩
theorem turn_got {fr d : Int} (h1 : -16 ≤ d) (h2 : d ≤ 15) (he : (turnP fr d).2 = 0) : partB (turnP fr d).1 = true ∧ diffP fr (turnP fr d).1 = d := by
  have pb : ∀ n, partB n = true ↔ (-15 ≤ n ∧ n ≤ 15) := fun n => by unfold partB; simp
  unfold turnP at he ⊢
  split at he
  · cases he
  · rename_i g0
    rw [if_neg g0]
    have hfr : partB fr = true := by
      simp only [Bool.or_eq_true, not_or, Bool.not_eq_true', Bool.not_eq_false] at g0
      exact g0.1.1
    rw [pb] at hfr
    split at he
    · rename_i g1; rw [if_pos g1]; refine ⟨g1, ?_⟩; unfold diffP; dsimp only; omega
    · rename_i g1; rw [if_neg g1]
      split at he
      · rename_i g2; rw [if_pos g2]; refine ⟨g2, ?_⟩; unfold diffP; dsimp only; omega
      · rename_i g2; rw [if_neg g2]
        split at he
        · rename_i g3; rw [if_pos g3]; refine ⟨g3, ?_⟩; unfold diffP; dsimp only; omega
        · cases he
theorem vget_got {l : List UInt8} {i pr : Int} (h0 : 0 ≤ i) (h1 : i ≤ 8 * (l.length : Int)) (he : (vgetP l i pr).2.2 = 0) : partB (vgetP l i pr).1 = true ∧ (vgetP l i pr).2.1 = i + ((movP pr (vgetP l i pr).1).length : Int) ∧ (vgetP l i pr).2.1 ≤ 8 * (l.length : Int) := by
  unfold vgetP at he ⊢
  dsimp only at he ⊢
  by_cases h2 : (treeR vecC vecN l i).2.2 = 0
  · rw [if_neg (by rw [h2]; decide)] at he ⊢
    obtain ⟨a, b, c⟩ := vec_got h2
    obtain ⟨d, e⟩ := turn_got b c he
    have f := tree_end h0 h1 h2
    unfold movP
    dsimp only
    rw [e]
    exact ⟨d, by rw [a], f⟩
  · rw [if_pos (by simpa using h2)] at he
    exact absurd he h2
theorem mget_got {l : List UInt8} {i ad : Int} {x : LastM} (h0 : 0 ≤ i) (h1 : i ≤ 8 * (l.length : Int)) (he : (mgetP l i ad x).2.2 = 0) :
    MOk (mgetP l i ad x).1 ∧ (mgetP l i ad x).1.ad = ad ∧ aheadB x ad = true ∧ ((mputL (mgetP l i ad x).1 x).length : Int) ≤ (mgetP l i ad x).2.1 ∧ i + (mgetP l i ad x).2.1 ≤ 8 * (l.length : Int) ∧ 1 ≤ (mgetP l i ad x).2.1 := by
  unfold mgetP at he ⊢
  split at he
  · cases he
  rename_i g0
  rw [if_neg g0]
  cases hx : aheadB x ad with
  | false => rw [hx, if_pos (by decide)] at he; cases he
  | true =>
  rw [hx] at he
  simp only [Bool.not_true, Bool.false_eq_true, if_false] at he ⊢
  have hp := pred_part hx
  generalize hpr : predP ad (ad - x.ad) x.had x.x x.y = pr at he hp ⊢
  by_cases k0 : (treeR kindC kindN l i).2.2 = 0
  · rw [k0] at he ⊢
    simp only [bne_self_eq_false, Bool.false_eq_true, if_false] at he ⊢
    obtain ⟨k1, k2, k3⟩ := kind_got k0
    have k4 := tree_end h0 h1 k0
    generalize (treeR kindC kindN l i).1 = kd at he k1 k2 ⊢
    generalize (treeR kindC kindN l i).2.1 = kn at he k2 k3 k4 ⊢
    have hq : (mq l kd (i + kn)).2.2 = 0 → (mq l kd (i + kn)).2.1 = i + kn + ((if pQ kd then digL (mq l kd (i + kn)).1.toNat 5 else []).length : Int) ∧ (mq l kd (i + kn)).2.1 ≤ 8 * (l.length : Int) ∧ (pQ kd = true → 1 ≤ (mq l kd (i + kn)).1 ∧ (mq l kd (i + kn)).1 ≤ 31) ∧ (pQ kd = false → (mq l kd (i + kn)).1 = 0) := by
      unfold mq
      cases hq : pQ kd with
      | true =>
        simp only [if_true]
        split
        · intro h; cases h
        · rename_i q1
          split
          · intro h; cases h
          · rename_i q2
            intro _
            have hlt : numN l (i + kn).toNat 5 < 32 := numN_lt l (i + kn).toNat 5
            simp only [beq_iff_eq] at q2
            rw [digL_len]
            dsimp only
            exact ⟨rfl, by omega, (fun _ => ⟨by omega, by omega⟩), (fun h => by cases h)⟩
      | false =>
        simp only [Bool.false_eq_true, if_false]
        intro _
        exact ⟨by simp, by omega, (fun h => by cases h), fun _ => trivial⟩
    by_cases q0 : (mq l kd (i + kn)).2.2 = 0
    · rw [q0] at he ⊢
      simp only [bne_self_eq_false, Bool.false_eq_true, if_false] at he ⊢
      obtain ⟨q1, q2, q3, q4⟩ := hq q0
      clear hq q0
      generalize (mq l kd (i + kn)).1 = qu at he q1 q3 q4 ⊢
      generalize (mq l kd (i + kn)).2.1 = a2 at he q1 q2 ⊢
      have hv : (mv l kd a2 pr.1 pr.2).2.2 = 0 → (mv l kd a2 pr.1 pr.2).2.1 = a2 + ((if pV kd then movP pr.1 (mv l kd a2 pr.1 pr.2).1.1 ++ movP pr.2 (mv l kd a2 pr.1 pr.2).1.2 else []).length : Int) ∧ (mv l kd a2 pr.1 pr.2).2.1 ≤ 8 * (l.length : Int) ∧ partB (mv l kd a2 pr.1 pr.2).1.1 = true ∧ partB (mv l kd a2 pr.1 pr.2).1.2 = true ∧ (pV kd = false → (mv l kd a2 pr.1 pr.2).1.1 = 0 ∧ (mv l kd a2 pr.1 pr.2).1.2 = 0) := by
        have ha2 : 0 ≤ a2 := by omega
        unfold mv
        cases hv : pV kd with
        | true =>
          simp only [if_true]
          by_cases v0 : (vgetP l a2 pr.1).2.2 = 0
          · rw [v0]
            simp only [bne_self_eq_false, Bool.false_eq_true, if_false]
            obtain ⟨v1, v2, v3⟩ := vget_got ha2 q2 v0
            by_cases w0 : (vgetP l (vgetP l a2 pr.1).2.1 pr.2).2.2 = 0
            · rw [w0]
              simp only [bne_self_eq_false, Bool.false_eq_true, if_false]
              obtain ⟨w1, w2, w3⟩ := vget_got (by omega) v3 w0
              intro _
              refine ⟨?_, w3, v1, w1, (fun h => by cases h)⟩
              rw [w2, List.length_append]
              push_cast
              omega
            · rw [if_pos (by simpa using w0)]
              intro h; exact absurd h w0
          · rw [if_pos (by simpa using v0)]
            intro h; exact absurd h v0
        | false =>
          simp only [Bool.false_eq_true, if_false]
          intro _
          exact ⟨by simp, q2, by decide, by decide, by simp⟩
      by_cases v0 : (mv l kd a2 pr.1 pr.2).2.2 = 0
      · rw [v0] at he ⊢
        simp only [bne_self_eq_false, Bool.false_eq_true, if_false] at he ⊢
        obtain ⟨v1, v2, v3, v4, v5⟩ := hv v0
        clear hv v0
        generalize (mv l kd a2 pr.1 pr.2).1 = mxy at he v1 v3 v4 v5 ⊢
        generalize (mv l kd a2 pr.1 pr.2).2.1 = a3 at he v1 v2 ⊢
        have ha3 : 0 ≤ a3 := by omega
        have hc : (mc l kd a3).2.2 = 0 → (mc l kd a3).2.1 = a3 + ((if pC kd then patP (mc l kd a3).1 else []).length : Int) ∧ (mc l kd a3).2.1 ≤ 8 * (l.length : Int) ∧ (pI kd = true → (mc l kd a3).1 = 63) ∧ (pI kd = false → pC kd = true → 1 ≤ (mc l kd a3).1 ∧ (mc l kd a3).1 ≤ 63) ∧ (pI kd = false → pC kd = false → (mc l kd a3).1 = 0) := by
          unfold mc
          cases hc : pC kd with
          | true =>
            simp only [if_true]
            by_cases c0 : (treeR patC patN l a3).2.2 = 0
            · rw [c0]
              simp only [bne_self_eq_false, Bool.false_eq_true, if_false]
              obtain ⟨c1, c2, c3⟩ := pat_got c0
              have c4 := tree_end ha3 v2 c0
              intro _
              exact ⟨by rw [c1], c4, (fun h => by rw [pIC' hc] at h; cases h), (fun _ _ => ⟨c2, c3⟩), (fun _ h => by cases h)⟩
            · rw [if_pos (by simpa using c0)]
              intro h; exact absurd h c0
          | false =>
            simp only [Bool.false_eq_true, if_false]
            intro _
            refine ⟨by simp, v2, (fun h => by rw [h]; rfl), (fun _ h => by cases h), (fun h _ => by rw [h]; rfl)⟩
        by_cases c0 : (mc l kd a3).2.2 = 0
        · rw [c0] at he ⊢
          simp only [bne_self_eq_false, Bool.false_eq_true, if_false] at he ⊢
          obtain ⟨c1, c2, c3, c4, c5⟩ := hc c0
          clear hc c0
          generalize (mc l kd a3).1 = pa at he c1 c3 c4 c5 ⊢
          generalize (mc l kd a3).2.1 = a4 at he c1 c2 ⊢
          by_cases b0 : (bgets l (pI kd) (cntP pa) a4).2.2 = 0
          · rw [b0] at he ⊢
            simp only [bne_self_eq_false, Bool.false_eq_true, if_false] at he ⊢
            obtain ⟨b1, b2, b3, b4⟩ := bgets_got (cntP pa) a4 (by omega) c2 b0
            generalize (bgets l (pI kd) (cntP pa) a4).1 = bl at b1 b2 b3 ⊢
            generalize (bgets l (pI kd) (cntP pa) a4).2.1 = a5 at b3 b4 ⊢
            refine ⟨⟨k1, by show 1 ≤ ad; omega, by show ad ≤ 33; omega, v3, v4, v5, q3, q4, c3, c4, c5, b1, b2⟩, by trivial, by trivial, ?_, by omega, by omega⟩
            rw [mputL_parts]
            dsimp only
            rw [hpr]
            unfold mQ mV mC mB
            dsimp only
            simp only [List.length_append] at *
            push_cast
            omega
          · rw [if_pos (by simpa using b0)] at he
            exact absurd he b0
        · rw [if_pos (by simpa using c0)] at he
          exact absurd he c0
      · rw [if_pos (by simpa using v0)] at he
        exact absurd he v0
    · rw [if_pos (by simpa using q0)] at he
      exact absurd he q0
  · rw [if_pos (by simpa using k0)] at he
    exact absurd he k0
end Go.Proofs.YtcojnigkgbmbmaaGreatDoor
