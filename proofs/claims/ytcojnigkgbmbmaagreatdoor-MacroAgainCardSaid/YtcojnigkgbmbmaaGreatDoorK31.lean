/- Stp, StpL, RdW, RunG, StpC, Step0 -/
import Derived.Test.YtcojnigkgbmbmaaGreatDoorK30
namespace Go.Proofs.YtcojnigkgbmbmaaGreatDoor
open Go Go.RowKit
theorem findR_ok {s : List UInt8} : ∀ {cs : List (List UInt8)} {ns : List Int} {n k : Int}, findR s cs ns = some (n, k) → n ∈ ns ∧ 0 ≤ k ∧ k ≤ s.length
  | [], _, _, _, h => by simp [findR] at h
  | _ :: _, [], _, _, h => by simp [findR] at h
  | c :: cs, m :: ns, n, k, h => by
    unfold findR at h
    split at h
    · rename_i hp
      have hle := (List.isPrefixOf_iff_prefix.1 hp).length_le
      simp only [Option.some.injEq, Prod.mk.injEq] at h
      obtain ⟨rfl, rfl⟩ := h
      exact ⟨by simp, by omega, by omega⟩
    · obtain ⟨a, b⟩ := findR_ok h
      exact ⟨List.mem_cons_of_mem _ a, b⟩
theorem treeR_ok {cs : List (List UInt8)} {ns : List Int} {l : List UInt8} {i : Int} (h0 : 0 ≤ i) (h1 : i ≤ 8 * (l.length : Int)) :
    0 ≤ (treeR cs ns l i).2.1 ∧ i + (treeR cs ns l i).2.1 ≤ 8 * (l.length : Int) ∧ ((treeR cs ns l i).2.2 = 0 → (treeR cs ns l i).1 ∈ ns) := by
  unfold treeR getT
  rw [if_neg (by omega)]
  have hl : (bitsL l i.toNat (min 24 (8 * l.length - i.toNat))).length ≤ 8 * l.length - i.toNat := by rw [bitsL_length]; omega
  generalize bitsL l i.toNat (min 24 (8 * l.length - i.toNat)) = s at hl
  cases hf : findR s cs ns with
  | some p =>
    obtain ⟨n, k⟩ := p
    obtain ⟨a, b, c⟩ := findR_ok hf
    exact ⟨b, by show i + k ≤ _; omega, fun _ => a⟩
  | none =>
    dsimp only
    split
    · exact ⟨by decide, by show i + 0 ≤ _; omega, fun h => by cases h⟩
    · exact ⟨by decide, by show i + 0 ≤ _; omega, fun h => by cases h⟩
theorem vecN_range : vecN.all (fun n => decide (-16 ≤ n) && decide (n ≤ 15)) = true := by kernel_rfl
theorem vec_get_ok {l : List UInt8} {i : Int} (h0 : 0 ≤ i) (h1 : i ≤ 8 * (l.length : Int)) (he : (treeR vecC vecN l i).2.2 = 0) : -16 ≤ (treeR vecC vecN l i).1 ∧ (treeR vecC vecN l i).1 ≤ 15 := by
  have h := List.all_eq_true.1 vecN_range _ ((treeR_ok h0 h1).2.2 he)
  simpa using h
theorem bpairs_ok (l : List UInt8) : ∀ (f : Nat) (i : Int) (first : Bool) (left : Int), 0 ≤ i → i ≤ 8 * (l.length : Int) → (bpairs l f i first left).2.2 = 0 → i ≤ (bpairs l f i first left).2.1 ∧ (bpairs l f i first left).2.1 ≤ 8 * (l.length : Int)
  | 0, i, first, left, h0, h1, h => by simp [bpairs] at h
  | f + 1, i, first, left, h0, h1, h => by
    have hok := cget_ok l i first h0 h1
    unfold okR at hok
    have hu : bpairs l (f + 1) i first left = (if (cgetP l i first).2.1 then ([], i + (cgetP l i first).2.2.1, 0) else if (cgetP l i first).2.2.2 != 0 then ([], 0, (cgetP l i first).2.2.2) else
      if left - ((cgetP l i first).1.1 + 1) < 0 then ([], 0, 11) else
      ((cgetP l i first).1 :: (bpairs l f (i + (cgetP l i first).2.2.1) false (left - ((cgetP l i first).1.1 + 1))).1, (bpairs l f (i + (cgetP l i first).2.2.1) false (left - ((cgetP l i first).1.1 + 1))).2.1, (bpairs l f (i + (cgetP l i first).2.2.1) false (left - ((cgetP l i first).1.1 + 1))).2.2)) := rfl
    rw [hu] at h ⊢
    split at h
    · rename_i he
      rw [if_pos he]
      exact ⟨by show i ≤ i + _; omega, by show i + _ ≤ _; omega⟩
    · rename_i he
      rw [if_neg he]
      split at h
      · rename_i h2
        dsimp only at h
        rw [h] at h2
        cases h2
      · rename_i h2
        rw [if_neg h2]
        split at h
        · cases h
        · rename_i h3
          rw [if_neg h3]
          have ih := bpairs_ok l f (i + (cgetP l i first).2.2.1) false (left - ((cgetP l i first).1.1 + 1)) (by omega) (by omega) h
          exact ⟨Int.le_trans (by omega) ih.1, ih.2⟩
theorem bget_ok {l : List UInt8} {i : Int} {intra : Bool} (h0 : 0 ≤ i) (h1 : i ≤ 8 * (l.length : Int)) : 0 ≤ (bgetP l i intra).2.1 ∧ i + (bgetP l i intra).2.1 ≤ 8 * (l.length : Int) := by
  unfold bgetP
  rw [if_neg (by omega), if_neg (by omega)]
  cases intra with
  | true =>
    rw [if_pos rfl]
    split
    · exact ⟨Int.le_refl 0, by show i + 0 ≤ _; omega⟩
    · rename_i h8
      dsimp only
      split
      · exact ⟨Int.le_refl 0, by show i + 0 ≤ _; omega⟩
      · split
        · exact ⟨Int.le_refl 0, by show i + 0 ≤ _; omega⟩
        · rename_i hq
          have hq0 : (bpairs l 66 (i + 8) false 63).2.2 = 0 := by simpa using hq
          have h := bpairs_ok l 66 (i + 8) false 63 (by omega) (by omega) hq0
          exact ⟨by show 0 ≤ _ - i; omega, by show i + (_ - i) ≤ _; omega⟩
  | false =>
    rw [if_neg (by decide)]
    dsimp only
    split
    · exact ⟨Int.le_refl 0, by show i + 0 ≤ _; omega⟩
    · rename_i hq
      have hq0 : (bpairs l 66 i true 64).2.2 = 0 := by simpa using hq
      have h := bpairs_ok l 66 i true 64 (by omega) (by omega) hq0
      exact ⟨by show 0 ≤ _ - i; omega, by show i + (_ - i) ≤ _; omega⟩
/-- what lies ahead of a step: the iterator sets the pattern of an intra one, ahead of the fifth kind of step on. -/
def ahdS (s : RdS) (t : Nat) : RdS := if 4 ≤ t ∧ s.pt.1 = true then { s with pa := 63 } else s
/-- a step: the reader behind it (its blocks apart), what it reads of a block, and its error. Steps: 0 kind, 1 quant, 2 and 3 the vector's parts, 4 pattern, 5 a block. -/
def stpS (l : List UInt8) (s : RdS) : Nat → (RdS × List BlkM) × Int
  | 0 => (({ s with a := s.a + (treeR kindC kindN l s.a).2.1, kd := (treeR kindC kindN l s.a).1, pt := ptK (treeR kindC kindN l s.a).1 }, []), (treeR kindC kindN l s.a).2.2)
  | 1 => if 8 * (l.length : Int) < s.a + 5 then (({ s with a := s.a + 5, qu := 0 }, []), 5) else (({ s with a := s.a + 5, qu := ((numN l s.a.toNat 5 : Nat) : Int) }, []), if ((numN l s.a.toNat 5 : Nat) : Int) == 0 then 9 else 0)
  | 2 => if (treeR vecC vecN l s.a).2.2 != 0 then ((s, []), (treeR vecC vecN l s.a).2.2) else (({ s with a := s.a + (treeR vecC vecN l s.a).2.1, mx := (turnP s.x (treeR vecC vecN l s.a).1).1 }, []), (turnP s.x (treeR vecC vecN l s.a).1).2)
  | 3 => if (treeR vecC vecN l s.a).2.2 != 0 then ((s, []), (treeR vecC vecN l s.a).2.2) else (({ s with a := s.a + (treeR vecC vecN l s.a).2.1, my := (turnP s.y (treeR vecC vecN l s.a).1).1 }, []), (turnP s.y (treeR vecC vecN l s.a).1).2)
  | 4 => (({ s with a := s.a + (treeR patC patN l s.a).2.1, pa := (treeR patC patN l s.a).1 }, []), (treeR patC patN l s.a).2.2)
  | _ => (({ s with a := s.a + (bgetP l s.a s.pt.1).2.1 }, [(bgetP l s.a s.pt.1).1]), (bgetP l s.a s.pt.1).2.2)
/-- the step that follows, by the step and the reader behind it; how many blocks are there. -/
def nxtS (s : RdS) : List Nat := (if s.pt.2.1 then [1] else []) ++ (if s.pt.2.2.1 then [2, 3] else []) ++ (if s.pt.2.2.2.2 then [4] else [])
/-- steps, one behind the other, to the end or an error. -/
def runS (l : List UInt8) : List Nat → RdS → List BlkM → (RdS × List BlkM) × Int
  | [], s, bl => ((s, bl), 0)
  | t :: ts, s, bl => if (stpS l (ahdS s t) t).2 != 0 then (((stpS l (ahdS s t) t).1.1, bl ++ (stpS l (ahdS s t) t).1.2), (stpS l (ahdS s t) t).2) else runS l ts (stpS l (ahdS s t) t).1.1 (bl ++ (stpS l (ahdS s t) t).1.2)
theorem runS_cons (l : List UInt8) (t : Nat) (ts : List Nat) (s : RdS) (bl : List BlkM) : runS l (t :: ts) s bl = if (stpS l (ahdS s t) t).2 != 0 then (((stpS l (ahdS s t) t).1.1, bl ++ (stpS l (ahdS s t) t).1.2), (stpS l (ahdS s t) t).2) else runS l ts (stpS l (ahdS s t) t).1.1 (bl ++ (stpS l (ahdS s t) t).1.2) := rfl
end Go.Proofs.YtcojnigkgbmbmaaGreatDoor
namespace Go.Proofs.YtcojnigkgbmbmaaGreatDoor
open Go Go.RowKit
/-- all steps: kind, then what the kind says, then so many blocks. -/
def rdAll (l : List UInt8) (s : RdS) : (RdS × List BlkM) × Int :=
  let k := stpS l s 0
  if k.2 != 0 then k else
  let m := runS l (nxtS k.1.1) k.1.1 []
  if m.2 != 0 then m else
  runS l (List.replicate (cntP (ahdS m.1.1 5).pa) 5) m.1.1 m.1.2
theorem run_blocks (l : List UInt8) : ∀ (k : Nat) (s : RdS) (bl : List BlkM),
    (bgets l s.pt.1 k s.a).2.2 ≠ 0 ∧ (runS l (List.replicate k 5) s bl).2 = (bgets l s.pt.1 k s.a).2.2 ∨
    (bgets l s.pt.1 k s.a).2.2 = 0 ∧ (runS l (List.replicate k 5) s bl).2 = 0 ∧ (runS l (List.replicate k 5) s bl).1.2 = bl ++ (bgets l s.pt.1 k s.a).1 ∧ (runS l (List.replicate k 5) s bl).1.1.a = (bgets l s.pt.1 k s.a).2.1 ∧
      (runS l (List.replicate k 5) s bl).1.1.ad = s.ad ∧ (runS l (List.replicate k 5) s bl).1.1.kd = s.kd ∧ (runS l (List.replicate k 5) s bl).1.1.qu = s.qu ∧ (runS l (List.replicate k 5) s bl).1.1.mx = s.mx ∧ (runS l (List.replicate k 5) s bl).1.1.my = s.my ∧ (runS l (List.replicate k 5) s bl).1.1.pa = (if k = 0 then s.pa else (ahdS s 5).pa)
  | 0, s, bl => .inr ⟨rfl, rfl, by simp [bgets, runS], rfl, rfl, rfl, rfl, rfl, rfl, rfl⟩
  | k + 1, s, bl => by
    have e : stpS l (ahdS s 5) 5 = (({ ahdS s 5 with a := s.a + (bgetP l s.a s.pt.1).2.1 }, [(bgetP l s.a s.pt.1).1]), (bgetP l s.a s.pt.1).2.2) := by
      unfold ahdS
      split <;> rfl
    have eb : bgets l s.pt.1 (k + 1) s.a = (if (bgetP l s.a s.pt.1).2.2 != 0 then ([], 0, (bgetP l s.a s.pt.1).2.2) else ((bgetP l s.a s.pt.1).1 :: (bgets l s.pt.1 k (s.a + (bgetP l s.a s.pt.1).2.1)).1, (bgets l s.pt.1 k (s.a + (bgetP l s.a s.pt.1).2.1)).2.1, (bgets l s.pt.1 k (s.a + (bgetP l s.a s.pt.1).2.1)).2.2)) := rfl
    rw [List.replicate_succ, runS_cons, e, eb]
    dsimp only
    by_cases hz : (bgetP l s.a s.pt.1).2.2 = 0
    · have hz2 : ((bgetP l s.a s.pt.1).2.2 != 0) = false := by rw [hz]; rfl
      rw [hz2, if_neg (by decide), if_neg (by decide)]
      have hpt : ({ ahdS s 5 with a := s.a + (bgetP l s.a s.pt.1).2.1 } : RdS).pt = s.pt := by unfold ahdS; split <;> rfl
      have ih := run_blocks l k { ahdS s 5 with a := s.a + (bgetP l s.a s.pt.1).2.1 } (bl ++ [(bgetP l s.a s.pt.1).1])
      rw [hpt] at ih
      dsimp only at ih
      rcases ih with ⟨h1, h2⟩ | ⟨h1, h2, h3, h4, h5, h6, h7, h8, h9, h10⟩
      · exact .inl ⟨h1, h2⟩
      · refine .inr ⟨h1, h2, by rw [h3]; simp, h4, h5.trans (by unfold ahdS; split <;> rfl), h6.trans (by unfold ahdS; split <;> rfl), h7.trans (by unfold ahdS; split <;> rfl), h8.trans (by unfold ahdS; split <;> rfl), h9.trans (by unfold ahdS; split <;> rfl), h10.trans ?_⟩
        rw [if_neg (show ¬ (k + 1 = 0) by omega)]
        have e2 : (ahdS { ahdS s 5 with a := s.a + (bgetP l s.a s.pt.1).2.1 } 5).pa = (ahdS s 5).pa := by
          by_cases hI : s.pt.1 = true
          · simp [ahdS, hI]
          · simp [ahdS, hI]
        split
        · rfl
        · exact e2
    · have hz2 : ((bgetP l s.a s.pt.1).2.2 != 0) = true := by simpa using hz
      rw [hz2, if_pos rfl, if_pos rfl]
      exact .inl ⟨hz, rfl⟩
theorem runS_app (l : List UInt8) : ∀ (ts us : List Nat) (s : RdS) (bl : List BlkM), runS l (ts ++ us) s bl = if (runS l ts s bl).2 != 0 then runS l ts s bl else runS l us (runS l ts s bl).1.1 (runS l ts s bl).1.2
  | [], us, s, bl => rfl
  | t :: ts, us, s, bl => by
    rw [List.cons_append, runS_cons, runS_cons]
    split
    · rfl
    · exact runS_app l ts us _ _
theorem run_q (l : List UInt8) (kd : Int) (s : RdS) (hq : s.qu = 0) : (mq l kd s.a).2.2 ≠ 0 ∧ (runS l (if pQ kd then [1] else []) s []).2 = (mq l kd s.a).2.2 ∨ (mq l kd s.a).2.2 = 0 ∧ runS l (if pQ kd then [1] else []) s [] = (({ s with a := (mq l kd s.a).2.1, qu := (mq l kd s.a).1 }, []), 0) := by
  unfold mq
  cases hp : pQ kd with
  | false =>
    right
    obtain ⟨a, pt, ad, kd2, qu, mx, my, pa, v, x, y⟩ := s
    dsimp only at hq
    subst hq
    exact ⟨rfl, rfl⟩
  | true =>
    rw [if_pos rfl, if_pos rfl, runS_cons]
    have ha : ahdS s 1 = s := by unfold ahdS; rw [if_neg (by omega)]
    rw [ha]
    by_cases hm : 8 * (l.length : Int) < s.a + 5
    · have hs : stpS l s 1 = (({ s with a := s.a + 5, qu := 0 }, []), 5) := if_pos hm
      left
      rw [hs, if_pos hm]
      exact ⟨by decide, rfl⟩
    · have hs : stpS l s 1 = (({ s with a := s.a + 5, qu := ((numN l s.a.toNat 5 : Nat) : Int) }, []), if ((numN l s.a.toNat 5 : Nat) : Int) == 0 then 9 else 0) := if_neg hm
      rw [hs, if_neg hm]
      by_cases hz : numN l s.a.toNat 5 = 0
      · left
        rw [hz]
        exact ⟨fun h => absurd (show (9 : Int) = 0 from h) (by decide), rfl⟩
      · right
        have h1 : (((numN l s.a.toNat 5 : Nat) : Int) == 0) = false := by simpa using hz
        have h2 : (numN l s.a.toNat 5 == 0) = false := by simpa using hz
        rw [h1, h2]
        exact ⟨rfl, rfl⟩
theorem run_v (l : List UInt8) (kd : Int) (s : RdS) (hx : s.mx = 0) (hy : s.my = 0) : (mv l kd s.a s.x s.y).2.2 ≠ 0 ∧ (runS l (if pV kd then [2, 3] else []) s []).2 = (mv l kd s.a s.x s.y).2.2 ∨ (mv l kd s.a s.x s.y).2.2 = 0 ∧ runS l (if pV kd then [2, 3] else []) s [] = (({ s with a := (mv l kd s.a s.x s.y).2.1, mx := (mv l kd s.a s.x s.y).1.1, my := (mv l kd s.a s.x s.y).1.2 }, []), 0) := by
  unfold mv
  cases hp : pV kd with
  | false =>
    right
    obtain ⟨a, pt, ad, kd2, qu, mx, my, pa, v, x, y⟩ := s
    dsimp only at hx hy
    subst hx hy
    exact ⟨rfl, rfl⟩
  | true =>
    rw [if_pos rfl, if_pos rfl, runS_cons]
    have ha : ahdS s 2 = s := by unfold ahdS; rw [if_neg (by omega)]
    rw [ha]
    have e2 : vgetP l s.a s.x = if (treeR vecC vecN l s.a).2.2 != 0 then (0, 0, (treeR vecC vecN l s.a).2.2) else ((turnP s.x (treeR vecC vecN l s.a).1).1, s.a + (treeR vecC vecN l s.a).2.1, (turnP s.x (treeR vecC vecN l s.a).1).2) := rfl
    have s2 : stpS l s 2 = if (treeR vecC vecN l s.a).2.2 != 0 then ((s, []), (treeR vecC vecN l s.a).2.2) else (({ s with a := s.a + (treeR vecC vecN l s.a).2.1, mx := (turnP s.x (treeR vecC vecN l s.a).1).1 }, []), (turnP s.x (treeR vecC vecN l s.a).1).2) := rfl
    dsimp only
    rw [e2, s2]
    cases h1 : ((treeR vecC vecN l s.a).2.2 != 0) with
    | true =>
      left
      rw [if_pos rfl, if_pos rfl]
      dsimp only
      rw [h1, if_pos rfl, if_pos rfl]
      exact ⟨by simpa using h1, rfl⟩
    | false =>
      simp only [Bool.false_eq_true, if_false]
      cases h2 : ((turnP s.x (treeR vecC vecN l s.a).1).2 != 0) with
      | true =>
        left
        simp only [if_true]
        exact ⟨by simpa using h2, trivial⟩
      | false =>
        simp only [Bool.false_eq_true, if_false]
        rw [runS_cons]
        generalize hs1 : ({ s with a := s.a + (treeR vecC vecN l s.a).2.1, mx := (turnP s.x (treeR vecC vecN l s.a).1).1 } : RdS) = s1
        have ha1 : ahdS s1 3 = s1 := by unfold ahdS; rw [if_neg (by omega)]
        have sa : s1.a = s.a + (treeR vecC vecN l s.a).2.1 := by rw [← hs1]
        have sy : s1.y = s.y := by rw [← hs1]
        have e3 : vgetP l (s.a + (treeR vecC vecN l s.a).2.1) s.y = if (treeR vecC vecN l s1.a).2.2 != 0 then (0, 0, (treeR vecC vecN l s1.a).2.2) else ((turnP s1.y (treeR vecC vecN l s1.a).1).1, s1.a + (treeR vecC vecN l s1.a).2.1, (turnP s1.y (treeR vecC vecN l s1.a).1).2) := by rw [sa, sy]; rfl
        have s3 : stpS l s1 3 = if (treeR vecC vecN l s1.a).2.2 != 0 then ((s1, []), (treeR vecC vecN l s1.a).2.2) else (({ s1 with a := s1.a + (treeR vecC vecN l s1.a).2.1, my := (turnP s1.y (treeR vecC vecN l s1.a).1).1 }, []), (turnP s1.y (treeR vecC vecN l s1.a).1).2) := rfl
        rw [ha1, e3, s3]
        cases h3 : ((treeR vecC vecN l s1.a).2.2 != 0) with
        | true =>
          left
          simp only [if_true, h3]
          exact ⟨by simpa using h3, trivial⟩
        | false =>
          simp only [Bool.false_eq_true, if_false]
          cases h4 : ((turnP s1.y (treeR vecC vecN l s1.a).1).2 != 0) with
          | true =>
            left
            simp only [if_true]
            exact ⟨by simpa using h4, trivial⟩
          | false =>
            right
            simp only [Bool.false_eq_true, if_false]
            refine ⟨trivial, ?_⟩
            rw [← hs1]
            rfl
theorem pIC {k : Int} (h : pC k = true) : pI k = false := by
  unfold pC at h
  unfold pI
  simp only [Bool.or_eq_true, beq_iff_eq] at h
  rcases h with ((((h | h) | h) | h) | h) | h <;> subst h <;> rfl
theorem run_c (l : List UInt8) (kd : Int) (s : RdS) (hp : s.pt.1 = pI kd) (h0 : s.pa = 0) : (mc l kd s.a).2.2 ≠ 0 ∧ (runS l (if pC kd then [4] else []) s []).2 = (mc l kd s.a).2.2 ∨
    (mc l kd s.a).2.2 = 0 ∧ ∃ s', runS l (if pC kd then [4] else []) s [] = ((s', []), 0) ∧ (ahdS s' 5).pa = (mc l kd s.a).1 ∧ s' = { s with a := (mc l kd s.a).2.1, pa := s'.pa } ∧ (pI kd = false → s'.pa = (mc l kd s.a).1) := by
  unfold mc
  cases hc : pC kd with
  | false =>
    right
    simp only [Bool.false_eq_true, if_false]
    refine ⟨trivial, s, rfl, ?_, rfl, fun h => by rw [h0, h]; rfl⟩
    unfold ahdS
    rw [hp]
    cases hI : pI kd <;> simp [h0]
  | true =>
    have hI := pIC hc
    rw [hI] at hp
    rw [if_pos rfl, if_pos rfl, runS_cons]
    have ha : ahdS s 4 = s := by unfold ahdS; rw [hp, if_neg (by simp)]
    have s4 : stpS l s 4 = (({ s with a := s.a + (treeR patC patN l s.a).2.1, pa := (treeR patC patN l s.a).1 }, []), (treeR patC patN l s.a).2.2) := rfl
    rw [ha, s4]
    dsimp only
    cases h1 : ((treeR patC patN l s.a).2.2 != 0) with
    | true =>
      left
      simp only [if_true]
      exact ⟨by simpa using h1, trivial⟩
    | false =>
      right
      simp only [Bool.false_eq_true, if_false]
      refine ⟨trivial, _, rfl, ?_, rfl, fun _ => rfl⟩
      unfold ahdS
      dsimp only
      rw [hp, if_neg (by simp)]
theorem kindN_in : kindN.all inK = true := by kernel_rfl
theorem nxtS_app (s : RdS) (kd : Int) (h : s.pt = (pI kd, pQ kd, pV kd, pF kd, pC kd)) : nxtS s = ((if pQ kd then [1] else []) ++ (if pV kd then [2, 3] else [])) ++ (if pC kd then [4] else []) := by unfold nxtS; rw [h]
def rd0 (i ad : Int) (x : LastM) (v : Value) : RdS := ⟨i, (false, false, false, false, false), ad, 0, 0, 0, 0, 0, v, (predP ad (ad - x.ad) x.had x.x x.y).1, (predP ad (ad - x.ad) x.had x.x x.y).2⟩
theorem treeR_mem {cs : List (List UInt8)} {ns : List Int} {l : List UInt8} {i : Int} (h : (treeR cs ns l i).2.2 = 0) : (treeR cs ns l i).1 ∈ ns := by
  unfold treeR at h ⊢
  split at h
  · cases h
  · rename_i hi
    rw [if_neg hi]
    unfold getT at h ⊢
    cases hf : findR (bitsL l i.toNat (min 24 (8 * l.length - i.toNat))) cs ns with
    | some p => obtain ⟨n, k⟩ := p; exact (findR_ok hf).1
    | none =>
      rw [hf] at h
      dsimp only at h
      split at h <;> cases h
theorem mget_all (l : List UInt8) (i ad : Int) (x : LastM) (v : Value) (hi : ¬ (i < 0 ∨ ad < 1 ∨ 33 < ad)) (ha : aheadB x ad = true) :
    ((mgetP l i ad x).2.2 ≠ 0 ∧ mgetP l i ad x = (m0, 0, (rdAll l (rd0 i ad x v)).2) ∧ (rdAll l (rd0 i ad x v)).2 ≠ 0) ∨
    ((rdAll l (rd0 i ad x v)).2 = 0 ∧ ∃ s bl, (rdAll l (rd0 i ad x v)).1 = (s, bl) ∧ mgetP l i ad x = (⟨ad, s.kd, s.qu, s.mx, s.my, s.pa, bl⟩, s.a - i, 0)) := by
  have e0 : mgetP l i ad x = (let pr := predP ad (ad - x.ad) x.had x.x x.y
      let k := treeR kindC kindN l i
      if k.2.2 != 0 then (m0, 0, k.2.2) else
      let q := mq l k.1 (i + k.2.1)
      if q.2.2 != 0 then (m0, 0, q.2.2) else
      let v := mv l k.1 q.2.1 pr.1 pr.2
      if v.2.2 != 0 then (m0, 0, v.2.2) else
      let c := mc l k.1 v.2.1
      if c.2.2 != 0 then (m0, 0, c.2.2) else
      let b := bgets l (pI k.1) (cntP c.1) c.2.1
      if b.2.2 != 0 then (m0, 0, b.2.2) else (⟨ad, k.1, q.1, v.1.1, v.1.2, c.1, b.1⟩, b.2.1 - i, 0)) := by
    unfold mgetP
    rw [if_neg hi, ha]
    rfl
  rw [e0]
  unfold rdAll
  have s0 : stpS l (rd0 i ad x v) 0 = (({ rd0 i ad x v with a := i + (treeR kindC kindN l i).2.1, kd := (treeR kindC kindN l i).1, pt := ptK (treeR kindC kindN l i).1 }, []), (treeR kindC kindN l i).2.2) := rfl
  rw [s0]
  dsimp only
  cases hk : ((treeR kindC kindN l i).2.2 != 0) with
  | true =>
    left
    simp only [if_true]
    exact ⟨by simpa using hk, trivial, by simpa using hk⟩
  | false =>
    simp only [Bool.false_eq_true, if_false]
    have hin : inK (treeR kindC kindN l i).1 = true := List.all_eq_true.1 kindN_in _ (treeR_mem (by simpa using hk))
    generalize hs1 : ({ rd0 i ad x v with a := i + (treeR kindC kindN l i).2.1, kd := (treeR kindC kindN l i).1, pt := ptK (treeR kindC kindN l i).1 } : RdS) = s1
    obtain ⟨kd, hkd⟩ : ∃ kd, (treeR kindC kindN l i).1 = kd := ⟨_, rfl⟩
    rw [hkd] at hs1 hin ⊢
    have hpt : s1.pt = (pI kd, pQ kd, pV kd, pF kd, pC kd) := by rw [← hs1]; show ptK kd = _; unfold ptK; rw [hin, if_pos rfl]
    have f1 : s1.a = i + (treeR kindC kindN l i).2.1 := by rw [← hs1]
    have f2 : s1.x = (predP ad (ad - x.ad) x.had x.x x.y).1 := by rw [← hs1]; rfl
    have f3 : s1.y = (predP ad (ad - x.ad) x.had x.x x.y).2 := by rw [← hs1]; rfl
    have f4 : s1.ad = ad := by rw [← hs1]; rfl
    have f5 : s1.kd = kd := by rw [← hs1]
    have g1 : s1.qu = 0 := by rw [← hs1]; rfl
    have g2 : s1.mx = 0 := by rw [← hs1]; rfl
    have g3 : s1.my = 0 := by rw [← hs1]; rfl
    have g4 : s1.pa = 0 := by rw [← hs1]; rfl
    clear hs1
    rw [nxtS_app s1 kd hpt, runS_app, runS_app, ← f1, ← f2, ← f3]
    rcases run_q l kd s1 g1 with ⟨h1, h2⟩ | ⟨h1, h2⟩
    · left
      have h3 : ((mq l kd s1.a).2.2 != 0) = true := by simpa using h1
      simp only [h2, h3, if_true]
      exact ⟨h1, trivial, h1⟩
    · rw [h2]
      have h3 : ((mq l kd s1.a).2.2 != 0) = false := by simpa using h1
      simp only [h3, Bool.false_eq_true, if_false, bne_self_eq_false]
      generalize hs2 : ({ s1 with a := (mq l kd s1.a).2.1, qu := (mq l kd s1.a).1 } : RdS) = s2
      have p1 : (mq l kd s1.a).2.1 = s2.a := by rw [← hs2]
      have p2 : (mq l kd s1.a).1 = s2.qu := by rw [← hs2]
      have p3 : s1.x = s2.x := by rw [← hs2]
      have p4 : s1.y = s2.y := by rw [← hs2]
      have p5 : s2.pt = (pI kd, pQ kd, pV kd, pF kd, pC kd) := by rw [← hs2]; exact hpt
      have p6 : s2.mx = 0 := by rw [← hs2]; exact g2
      have p7 : s2.my = 0 := by rw [← hs2]; exact g3
      have p8 : s2.pa = 0 := by rw [← hs2]; exact g4
      have p9 : s2.kd = kd := by rw [← hs2]; exact f5
      rw [p1, p2, p3, p4]
      clear hs2 h1 h2 h3 p1 p2 p3 p4 g1 g2 g3 g4 f1 f2 f3 f4 f5 hpt
      rcases run_v l kd s2 p6 p7 with ⟨h1, h2⟩ | ⟨h1, h2⟩
      · left
        have h3 : ((mv l kd s2.a s2.x s2.y).2.2 != 0) = true := by simpa using h1
        simp only [h2, h3, if_true]
        exact ⟨h1, trivial, h1⟩
      · rw [h2]
        have h3 : ((mv l kd s2.a s2.x s2.y).2.2 != 0) = false := by simpa using h1
        simp only [h3, Bool.false_eq_true, if_false, bne_self_eq_false]
        generalize hs3 : ({ s2 with a := (mv l kd s2.a s2.x s2.y).2.1, mx := (mv l kd s2.a s2.x s2.y).1.1, my := (mv l kd s2.a s2.x s2.y).1.2 } : RdS) = s3
        have r1 : (mv l kd s2.a s2.x s2.y).2.1 = s3.a := by rw [← hs3]
        have r2 : (mv l kd s2.a s2.x s2.y).1.1 = s3.mx := by rw [← hs3]
        have r3 : (mv l kd s2.a s2.x s2.y).1.2 = s3.my := by rw [← hs3]
        have r4 : s2.qu = s3.qu := by rw [← hs3]
        have r5 : s3.pt = (pI kd, pQ kd, pV kd, pF kd, pC kd) := by rw [← hs3]; exact p5
        have r8 : s3.pa = 0 := by rw [← hs3]; exact p8
        have r9 : s3.kd = kd := by rw [← hs3]; exact p9
        rw [r1, r2, r3, r4]
        clear hs3 h1 h2 h3 r1 r2 r3 r4 p5 p6 p7 p8 p9
        rcases run_c l kd s3 (by rw [r5]) r8 with ⟨h1, h2⟩ | ⟨h1, s4, h2, h4, h5, h6⟩
        · left
          have h3 : ((mc l kd s3.a).2.2 != 0) = true := by simpa using h1
          simp only [h2, h3, if_true]
          exact ⟨h1, trivial, h1⟩
        · rw [h2]
          have h3 : ((mc l kd s3.a).2.2 != 0) = false := by simpa using h1
          simp only [h3, Bool.false_eq_true, if_false, bne_self_eq_false]
          rw [h4]
          have t1 : (mc l kd s3.a).2.1 = s4.a := by rw [h5]
          have t2 : s4.pt.1 = pI kd := by rw [h5]; show s3.pt.1 = _; rw [r5]
          have t3 : s4.qu = s3.qu := by rw [h5]
          have t4 : s4.mx = s3.mx := by rw [h5]
          have t5 : s4.my = s3.my := by rw [h5]
          have t6 : s4.kd = kd := by rw [h5]; exact r9
          rw [t1, ← t2]
          rcases run_blocks l (cntP (mc l kd s3.a).1) s4 [] with ⟨k1, k2⟩ | ⟨k1, k2, k3, k4, k5, k6, k7, k8, k9, k10⟩
          · left
            have k3 : ((bgets l s4.pt.1 (cntP (mc l kd s3.a).1) s4.a).2.2 != 0) = true := by simpa using k1
            rw [k3, if_pos rfl, k2]
            exact ⟨k1, rfl, k1⟩
          · right
            have k11 : ((bgets l s4.pt.1 (cntP (mc l kd s3.a).1) s4.a).2.2 != 0) = false := by simpa using k1
            rw [k11, if_neg (by decide)]
            refine ⟨k2, _, _, rfl, ?_⟩
            rw [k3, k4, k6, k7, k8, k9, k10, t3, t4, t5, t6, h4, List.nil_append]
            congr 2
            split
            · rename_i hz
              cases hI : pI kd with
              | false => exact (h6 hI).symm
              | true =>
                exfalso
                have hC : pC kd = false := by
                  cases hc : pC kd with
                  | false => rfl
                  | true => rw [pIC hc] at hI; cases hI
                have e63 : (mc l kd s3.a).1 = 63 := by unfold mc; rw [hC, hI]; rfl
                rw [e63] at hz
                revert hz
                decide
            · rfl
end Go.Proofs.YtcojnigkgbmbmaaGreatDoor
namespace Go.Proofs.YtcojnigkgbmbmaaGreatDoor
open Go Go.RowKit
/-- a reader that a call has made itself (of the start world w0), with its blocks xs. -/
structure RdW (w0 : World) (g : Nat) (A : Option Addr) (n c : Nat) (s : RdS) (xs : List BkE) (W : World) : Prop where
  below : Below w0.heap.size w0 W
  cell : Blk W g 61 (rdC A n c s)
  row : W.ownsRow w0.heap.size 81 2 s.v xs.length (rowC bkC xs)
  bl : ∀ p ∈ xs, W.ownsRow w0.heap.size 109 2 (.slice p.2.1 p.1.l.length p.2.2) p.1.l.length (rowC pairC p.1.l)
theorem own_keep {W W' : World} {base e size n : Nat} {v : Value} {xs : List Value} (h : W.ownsRow base e size v n xs) (hk : ∀ (g : Nat) (cs : Array Value), Blk W g e cs → Blk W' g e cs) : W'.ownsRow base e size v n xs := by
  refine ⟨h.1, ?_⟩
  rcases h.2 with h1 | ⟨g, cap, cur, h1, h2, h3, h4⟩
  · exact .inl h1
  · exact .inr ⟨g, cap, cur, h1, h2, hk g cur h3, h4⟩
theorem RdW.mono {w0 W W' : World} {g : Nat} {A : Option Addr} {n c : Nat} {s : RdS} {xs : List BkE} (h : RdW w0 g A n c s xs W) (hb : Below W.heap.size W W') : RdW w0 g A n c s xs W' :=
  ⟨h.below.trans (hb.mono h.below.size), h.cell.below hb h.cell.lt, own_below h.row hb (Nat.le_refl _), fun p hp => own_below (h.bl p hp) hb (Nat.le_refl _)⟩
/-- a step that turns the reader's cells alone. -/
theorem RdW.turn {w0 W W' : World} {g : Nat} {A : Option Addr} {n c : Nat} {s s' : RdS} {xs : List BkE} (h : RdW w0 g A n c s xs W) (hg : w0.heap.size ≤ g) (ht : TurnG g W W') (hc : Blk W' g 61 (rdC A n c s')) (hv : s'.v = s.v) : RdW w0 g A n c s' xs W' := by
  have hk : ∀ (e : TypeId), e ≠ 61 → ∀ (g' : Nat) (cs : Array Value), Blk W g' e cs → Blk W' g' e cs := fun e he g' cs hb => ht.blk hb (fun hgg => by subst hgg; exact blk_ne hb h.cell he rfl)
  refine ⟨?_, hc, ?_, fun p hp => own_keep (h.bl p hp) (hk _ (by simp))⟩
  · exact h.below.trans ⟨ht.os, ht.tape, ht.output, ht.size, fun k hk2 => ht.block k (Nat.lt_of_lt_of_le hk2 h.below.size) (by omega)⟩
  · rw [hv]
    exact own_keep h.row (hk _ (by simp))
/-- a step that appends a block. -/
theorem RdW.block {w0 W W' : World} {g : Nat} {A : Option Addr} {n c : Nat} {s : RdS} {xs : List BkE} {r : BlkM × Int × Int} {a2 : Int} {e : Ending} (h : RdW w0 g A n c s xs W) (hp : RdBPost w0 g A n c s xs r a2 W e W') :
    ∃ v A2 c2, RdW w0 g A n c { s with a := a2, v := v } (xs ++ [(r.1, A2, c2)]) W' := by
  obtain ⟨v, A2, c2, h1, h2, h3⟩ := hp.ex
  refine ⟨v, A2, c2, hp.below, h1, by rw [List.length_append]; exact h2, fun p hpm => ?_⟩
  rcases List.mem_append.1 hpm with hpm | hpm
  · exact own_keep (h.bl p hpm) (fun g' cs hb => hp.keep g' _ cs hb (by simp) (fun hgg => by subst hgg; exact blk_ne hb h.cell (by simp) rfl))
  · rw [List.mem_singleton] at hpm
    subst hpm
    exact h3
end Go.Proofs.YtcojnigkgbmbmaaGreatDoor
namespace Go.Proofs.YtcojnigkgbmbmaaGreatDoor
open Go Go.RowKit
/-- the steps that rdAll runs through. -/
def tagsS (l : List UInt8) (s : RdS) : List Nat := 0 :: (nxtS (stpS l s 0).1.1 ++ List.replicate (cntP (ahdS (runS l (nxtS (stpS l s 0).1.1) (stpS l s 0).1.1 []).1.1 5).pa) 5)
theorem rdAll_run (l : List UInt8) (s : RdS) : rdAll l s = runS l (tagsS l s) s [] := by
  unfold rdAll tagsS
  rw [runS_cons, show ahdS s 0 = s by unfold ahdS; rw [if_neg (by omega)]]
  dsimp only
  have h0 : (stpS l s 0).1.2 = [] := rfl
  rw [h0, List.append_nil]
  split
  · rw [← h0]
  · rw [runS_app]
theorem runS_snoc (l : List UInt8) {ts : List Nat} {t : Nat} {s s' : RdS} {bl bl' : List BlkM} (h : runS l ts s bl = ((s', bl'), 0)) : runS l (ts ++ [t]) s bl = (((stpS l (ahdS s' t) t).1.1, bl' ++ (stpS l (ahdS s' t) t).1.2), (stpS l (ahdS s' t) t).2) := by
  rw [runS_app, h]
  dsimp only
  rw [if_neg (by decide), runS_cons]
  split
  · rfl
  · rename_i he
    have : (stpS l (ahdS s' t) t).2 = 0 := by simpa using he
    rw [this]
    rfl
theorem runS_pre (l : List UInt8) {ts TL : List Nat} {t : Nat} {s s' : RdS} {bl bl' : List BlkM} (h : runS l ts s bl = ((s', bl'), 0)) (hp : ts ++ [t] <+: TL) (he : (stpS l (ahdS s' t) t).2 ≠ 0) : (runS l TL s bl).2 = (stpS l (ahdS s' t) t).2 := by
  obtain ⟨us, rfl⟩ := hp
  rw [runS_app, runS_snoc l h, if_pos (by simpa using he)]
theorem ahd_keep (s : RdS) (t : Nat) : (ahdS s t).a = s.a ∧ (ahdS s t).x = s.x ∧ (ahdS s t).y = s.y ∧ (ahdS s t).pt = s.pt ∧ (ahdS s t).v = s.v := by unfold ahdS; split <;> simp
theorem stp_keep (l : List UInt8) (s : RdS) (t : Nat) : (stpS l s t).1.1.x = s.x ∧ (stpS l s t).1.1.y = s.y ∧ (t ≠ 0 → (stpS l s t).1.1.pt = s.pt) ∧ (stpS l s t).1.2.length ≤ 1 := by
  unfold stpS
  split
  · simp
  · split <;> simp
  · split <;> simp
  · split <;> simp
  · simp
  · simp
theorem stp_bnd (l : List UInt8) {s : RdS} {t : Nat} (h0 : 0 ≤ s.a) (h1 : s.a ≤ 8 * (l.length : Int)) (he : (stpS l s t).2 = 0) : 0 ≤ (stpS l s t).1.1.a ∧ (stpS l s t).1.1.a ≤ 8 * (l.length : Int) := by
  match t, he with
  | 0, _ =>
    have h := treeR_ok (cs := kindC) (ns := kindN) h0 h1
    show 0 ≤ s.a + _ ∧ s.a + _ ≤ _
    omega
  | 1, he =>
    by_cases hm : 8 * (l.length : Int) < s.a + 5
    · have hs : stpS l s 1 = (({ s with a := s.a + 5, qu := 0 }, []), 5) := if_pos hm
      rw [hs] at he
      cases he
    · have hs : stpS l s 1 = (({ s with a := s.a + 5, qu := ((numN l s.a.toNat 5 : Nat) : Int) }, []), if ((numN l s.a.toNat 5 : Nat) : Int) == 0 then 9 else 0) := if_neg hm
      rw [hs]
      show 0 ≤ s.a + 5 ∧ s.a + 5 ≤ _
      omega
  | 2, _ =>
    have h := treeR_ok (cs := vecC) (ns := vecN) h0 h1
    show 0 ≤ (if (treeR vecC vecN l s.a).2.2 != 0 then ((s, []), (treeR vecC vecN l s.a).2.2) else (({ s with a := s.a + (treeR vecC vecN l s.a).2.1, mx := (turnP s.x (treeR vecC vecN l s.a).1).1 }, ([] : List BlkM)), (turnP s.x (treeR vecC vecN l s.a).1).2)).1.1.a ∧ (if (treeR vecC vecN l s.a).2.2 != 0 then ((s, []), (treeR vecC vecN l s.a).2.2) else (({ s with a := s.a + (treeR vecC vecN l s.a).2.1, mx := (turnP s.x (treeR vecC vecN l s.a).1).1 }, ([] : List BlkM)), (turnP s.x (treeR vecC vecN l s.a).1).2)).1.1.a ≤ _
    split
    · exact ⟨h0, h1⟩
    · show 0 ≤ s.a + _ ∧ s.a + _ ≤ _
      omega
  | 3, _ =>
    have h := treeR_ok (cs := vecC) (ns := vecN) h0 h1
    show 0 ≤ (if (treeR vecC vecN l s.a).2.2 != 0 then ((s, []), (treeR vecC vecN l s.a).2.2) else (({ s with a := s.a + (treeR vecC vecN l s.a).2.1, my := (turnP s.y (treeR vecC vecN l s.a).1).1 }, ([] : List BlkM)), (turnP s.y (treeR vecC vecN l s.a).1).2)).1.1.a ∧ (if (treeR vecC vecN l s.a).2.2 != 0 then ((s, []), (treeR vecC vecN l s.a).2.2) else (({ s with a := s.a + (treeR vecC vecN l s.a).2.1, my := (turnP s.y (treeR vecC vecN l s.a).1).1 }, ([] : List BlkM)), (turnP s.y (treeR vecC vecN l s.a).1).2)).1.1.a ≤ _
    split
    · exact ⟨h0, h1⟩
    · show 0 ≤ s.a + _ ∧ s.a + _ ≤ _
      omega
  | 4, _ =>
    have h := treeR_ok (cs := patC) (ns := patN) h0 h1
    show 0 ≤ s.a + _ ∧ s.a + _ ≤ _
    omega
  | _ + 5, _ =>
    have h := bget_ok (intra := s.pt.1) h0 h1
    show 0 ≤ s.a + _ ∧ s.a + _ ≤ _
    omega
theorem runS_bnd (l : List UInt8) : ∀ (ts : List Nat) {s s' : RdS} {bl bl' : List BlkM}, runS l ts s bl = ((s', bl'), 0) → 0 ≤ s.a → s.a ≤ 8 * (l.length : Int) → 0 ≤ s'.a ∧ s'.a ≤ 8 * (l.length : Int) ∧ bl'.length ≤ bl.length + ts.length ∧ s'.x = s.x ∧ s'.y = s.y
  | [], s, s', bl, bl', h, h0, h1 => by
    simp only [runS, Prod.mk.injEq, and_true] at h
    obtain ⟨rfl, rfl⟩ := h
    exact ⟨h0, h1, by simp, rfl, rfl⟩
  | t :: ts, s, s', bl, bl', h, h0, h1 => by
    rw [runS_cons] at h
    split at h
    · rename_i he
      rw [(Prod.mk.inj h).2] at he
      cases he
    · rename_i he
      have he : (stpS l (ahdS s t) t).2 = 0 := by simpa using he
      obtain ⟨k1, k2, k3, _, _⟩ := ahd_keep s t
      obtain ⟨b0, b1⟩ := stp_bnd l (by rw [k1]; exact h0) (by rw [k1]; exact h1) he
      obtain ⟨c1, c2, c3, c4⟩ := stp_keep l (ahdS s t) t
      obtain ⟨d1, d2, d3, d4, d5⟩ := runS_bnd l ts h b0 b1
      refine ⟨d1, d2, ?_, by rw [d4, c1, k2], by rw [d5, c2, k3]⟩
      rw [List.length_append] at d3
      rw [List.length_cons]
      omega
theorem runS_xy (l : List UInt8) : ∀ (ts : List Nat) {s s' : RdS} {bl bl' : List BlkM}, runS l ts s bl = ((s', bl'), 0) → s'.x = s.x ∧ s'.y = s.y
  | [], s, s', bl, bl', h => by
    simp only [runS, Prod.mk.injEq, and_true] at h
    obtain ⟨rfl, rfl⟩ := h
    exact ⟨rfl, rfl⟩
  | t :: ts, s, s', bl, bl', h => by
    rw [runS_cons] at h
    split at h
    · rename_i he
      rw [(Prod.mk.inj h).2] at he
      cases he
    · obtain ⟨d4, d5⟩ := runS_xy l ts h
      obtain ⟨k1, k2, k3, _, _⟩ := ahd_keep s t
      obtain ⟨c1, c2, c3, c4⟩ := stp_keep l (ahdS s t) t
      exact ⟨by rw [d4, c1, k2], by rw [d5, c2, k3]⟩
theorem runS_pt (l : List UInt8) : ∀ (ts : List Nat) {s s' : RdS} {bl bl' : List BlkM}, runS l ts s bl = ((s', bl'), 0) → 0 ∉ ts → s'.pt = s.pt
  | [], s, s', bl, bl', h, _ => by
    simp only [runS, Prod.mk.injEq, and_true] at h
    obtain ⟨rfl, rfl⟩ := h
    rfl
  | t :: ts, s, s', bl, bl', h, hn => by
    rw [runS_cons] at h
    split at h
    · rename_i he
      rw [(Prod.mk.inj h).2] at he
      cases he
    · have := runS_pt l ts h (fun hm => hn (List.mem_cons_of_mem _ hm))
      rw [this, (stp_keep l (ahdS s t) t).2.2.1 (fun e => hn (by rw [e]; exact List.mem_cons_self ..)), (ahd_keep s t).2.2.2.1]
/-- behind the first step: its reader. -/
theorem runS_first (l : List UInt8) {ts : List Nat} {s s' : RdS} {bl' : List BlkM} (h : runS l (0 :: ts) s [] = ((s', bl'), 0)) : (stpS l s 0).2 = 0 ∧ runS l ts (stpS l s 0).1.1 [] = ((s', bl'), 0) := by
  rw [runS_cons, show ahdS s 0 = s by unfold ahdS; rw [if_neg (by omega)]] at h
  split at h
  · rename_i he
    rw [(Prod.mk.inj h).2] at he
    cases he
  · rename_i he
    exact ⟨by simpa using he, h⟩
/-- the parts that the kind tells, behind the first step and as many as follow. -/
theorem runS_pt0 (l : List UInt8) {ts : List Nat} {s s' : RdS} {bl' : List BlkM} (h : runS l (0 :: ts) s [] = ((s', bl'), 0)) (hn : 0 ∉ ts) : s'.pt = (stpS l s 0).1.1.pt := runS_pt l ts (runS_first l h).2 hn
theorem tags_len (l : List UInt8) (s : RdS) : (tagsS l s).length ≤ 11 := by
  have h : ∀ p : Int, cntP p ≤ 6 := fun p => by unfold cntP; split <;> omega
  have h2 : ∀ q : RdS, (nxtS q).length ≤ 4 := fun q => by unfold nxtS; (repeat' split) <;> simp
  have a := h2 (stpS l s 0).1.1
  unfold tagsS
  rw [List.length_cons, List.length_append, List.length_replicate]
  have b := h (ahdS (runS l (nxtS (stpS l s 0).1.1) (stpS l s 0).1.1 []).1.1 5).pa
  omega
/-- the steps ahead of the blocks: what tagsS goes through once the parts are known. -/
theorem tags_of (l : List UInt8) {s s' : RdS} {bl' : List BlkM} (h : runS l (0 :: nxtS (stpS l s 0).1.1) s [] = ((s', bl'), 0)) : tagsS l s = 0 :: (nxtS (stpS l s 0).1.1 ++ List.replicate (cntP (ahdS s' 5).pa) 5) := by
  unfold tagsS
  rw [(runS_first l h).2]
theorem ahd5 (l : List UInt8) (s : RdS) : ahdS (stpS l (ahdS s 5) 5).1.1 5 = (stpS l (ahdS s 5) 5).1.1 := by
  have e : (stpS l (ahdS s 5) 5).1.1 = { ahdS s 5 with a := (ahdS s 5).a + (bgetP l (ahdS s 5).a (ahdS s 5).pt.1).2.1 } := rfl
  rw [e]
  by_cases hI : s.pt.1 = true
  · have h1 : ahdS s 5 = { s with pa := 63 } := by unfold ahdS; rw [if_pos ⟨by decide, hI⟩]
    rw [h1]
    unfold ahdS
    rw [if_pos ⟨by decide, hI⟩]
  · have h1 : ahdS s 5 = s := by unfold ahdS; rw [if_neg (fun h => hI h.2)]
    rw [h1]
    unfold ahdS
    rw [if_neg (fun h => hI h.2)]
theorem runS_end5 (l : List UInt8) {ts : List Nat} {s s' : RdS} {bl bl' : List BlkM} (h : runS l (ts ++ [5]) s bl = ((s', bl'), 0)) : ahdS s' 5 = s' := by
  rw [runS_app] at h
  split at h
  · rename_i he
    rw [h] at he
    cases he
  · rw [runS_cons] at h
    split at h
    · rename_i he
      rw [(Prod.mk.inj h).2] at he
      cases he
    · have e := (Prod.mk.inj (Prod.mk.inj h).1).1
      rw [← e]
      exact ahd5 l _
theorem ahd_low (s : RdS) {t : Nat} (h : t < 4) : ahdS s t = s := by unfold ahdS; rw [if_neg (by omega)]
theorem ahd_45 (s : RdS) : ahdS s 4 = ahdS s 5 := by unfold ahdS; simp
end Go.Proofs.YtcojnigkgbmbmaaGreatDoor
namespace Go.Proofs.YtcojnigkgbmbmaaGreatDoor
open Go Go.RowKit
structure StpPost (w0 : World) (g : Nat) (A : Option Addr) (n c : Nat) (l : List UInt8) (s : RdS) (xs : List BkE) (t : Nat) (W : World) (e : Ending) (W' : World) : Prop where
  ret : e = .returned (.int .i64 (stpS l s t).2)
  ex : ∃ v xs', RdW w0 g A n c { (stpS l s t).1.1 with v := v } xs' W' ∧ xs'.map (·.1) = xs.map (·.1) ++ (stpS l s t).1.2
  keep : ∀ (g' : Nat) (ty : TypeId) (cs : Array Value), Blk W g' ty cs → ty ≠ 81 → g' ≠ g → Blk W' g' ty cs
  from_ : ∀ B' : Nat, KeepsFrom B' W W'
theorem turn_kf {g B : Nat} {W W' : World} {t : TypeId} {cs : Array Value} (h : TurnG g W W') (hb : Blk W g t cs) : KeepsFrom B W W' :=
  ⟨h.size, fun k o _ hk ho => (h.block k (Array.getElem?_eq_some_iff.1 hk).1 (fun e => by
    subst e
    have h2 : W.heap[k]? = some (.cells cs t (0, 0)) := hb
    rw [h2] at hk
    cases hk
    cases ho)).trans hk⟩
theorem stp_turn {w0 W W' : World} {g : Nat} {A : Option Addr} {n c : Nat} {l : List UInt8} {s : RdS} {xs : List BkE} {t : Nat} {e : Ending} (h : RdW w0 g A n c s xs W) (hg : w0.heap.size ≤ g) (ht : TurnG g W W') (he : e = .returned (.int .i64 (stpS l s t).2)) (hc : Blk W' g 61 (rdC A n c (stpS l s t).1.1)) (hv : (stpS l s t).1.1.v = s.v) (hbl : (stpS l s t).1.2 = []) : StpPost w0 g A n c l s xs t W e W' :=
  ⟨he, ⟨(stpS l s t).1.1.v, xs, h.turn hg ht hc hv, by rw [hbl, List.append_nil]⟩, fun g' ty cs hb _ hne => ht.blk hb hne, fun B' => turn_kf ht h.cell⟩
section
variable {w0 W : World} {g : Nat} {A : Option Addr} {n c : Nat} {l : List UInt8} {s : RdS} {xs : List BkE}
theorem wrap_ok {a k : Int} {m : Nat} (h0 : 0 ≤ a) (hk : 0 ≤ k) (h1 : a + k ≤ 8 * (m : Int) + 5) (hm : m ≤ 2 ^ 47) : IntKind.i64.wrap (a + k) = a + k := by rw [IntKind.wrap_i64]; omega
theorem stp_kind (h : RdW w0 g A n c s xs W) (hg : w0.heap.size ≤ g) (hA : Sl w0 A (l.map byteV)) (hn : l.length = n) (hsz : n ≤ 2 ^ 47) (h0 : 0 ≤ s.a) (h1 : s.a ≤ 8 * (l.length : Int)) :
    Calls Tryz.prog 72 #[.pointer (some ⟨g, 0, none⟩)] W (StpPost w0 g A n c l s xs 0 W) := by
  obtain ⟨a, b, _⟩ := treeR_ok (cs := kindC) (ns := kindN) h0 h1
  refine (rd_kind g A n c l s W h.cell (hA.below h.below) hn hsz (by omega) _ (wrap_ok (m := l.length) h0 a (by omega) (by omega))).mono ?_
  rintro e W' ⟨rfl, hc, ht⟩
  exact stp_turn h hg ht rfl hc rfl rfl
theorem stp_quant (h : RdW w0 g A n c s xs W) (hg : w0.heap.size ≤ g) (hA : Sl w0 A (l.map byteV)) (hn : l.length = n) (hsz : n ≤ 2 ^ 47) (h0 : 0 ≤ s.a) (h1 : s.a ≤ 8 * (l.length : Int)) :
    Calls Tryz.prog 73 #[.pointer (some ⟨g, 0, none⟩)] W (StpPost w0 g A n c l s xs 1 W) := by
  have hw : IntKind.i64.wrap (s.a + 5) = s.a + 5 := wrap_ok (m := n) h0 (by decide) (by omega) hsz
  by_cases hm : 8 * (l.length : Int) < s.a + 5
  · have hs : stpS l s 1 = (({ s with a := s.a + 5, qu := 0 }, []), 5) := if_pos hm
    refine (rd_quant g A n c l s W h.cell (hA.below h.below) 0 5 (s.a + 5) (fun W2 _ => (bits_Read_more A n c s.a 5 W2 h0 (by decide) (by decide) (by omega) hsz).mono (fun e w' hh => hh)) hw (.inr rfl)).mono ?_
    rintro e W' ⟨rfl, hc, ht⟩
    exact stp_turn h hg ht (by rw [hs]; rfl) (by rw [hs]; exact hc) (by rw [hs]) (by rw [hs])
  · have hs : stpS l s 1 = (({ s with a := s.a + 5, qu := ((numN l s.a.toNat 5 : Nat) : Int) }, []), if ((numN l s.a.toNat 5 : Nat) : Int) == 0 then 9 else 0) := if_neg hm
    refine (rd_quant g A n c l s W h.cell (hA.below h.below) ((numN l s.a.toNat 5 : Nat) : Int) 0 (s.a + 5) (fun W2 hW2 => bits_Read_v _ A n c l s.a 5 W2 rfl hW2 hn h0 (by decide) (by decide) (by omega) hsz) hw (.inl rfl)).mono ?_
    rintro e W' ⟨rfl, hc, ht⟩
    exact stp_turn h hg ht (by rw [hs]; rfl) (by rw [hs]; exact hc) (by rw [hs]) (by rw [hs])
theorem stp_pattern (h : RdW w0 g A n c s xs W) (hg : w0.heap.size ≤ g) (hA : Sl w0 A (l.map byteV)) (hT : Ts w0) (hn : l.length = n) (hsz : n ≤ 2 ^ 47) (h0 : 0 ≤ s.a) (h1 : s.a ≤ 8 * (l.length : Int)) :
    Calls Tryz.prog 75 #[.pointer (some ⟨g, 0, none⟩)] W (StpPost w0 g A n c l s xs 4 W) := by
  obtain ⟨a, b, _⟩ := treeR_ok (cs := patC) (ns := patN) h0 h1
  refine (rd_pattern g A n c l s W h.cell (hT.below h.below) (hA.below h.below) hn hsz (by omega) _ (wrap_ok (m := l.length) h0 a (by omega) (by omega))).mono ?_
  rintro e W' ⟨rfl, hc, ht⟩
  exact stp_turn h hg ht rfl hc rfl rfl
theorem stp_block (h : RdW w0 g A n c s xs W) (hg : w0.heap.size ≤ g) (hA : Sl w0 A (l.map byteV)) (hT : Ts w0) (hn : l.length = n) (hsz : n ≤ 2 ^ 47) (h0 : 0 ≤ s.a) (h1 : s.a ≤ 8 * (l.length : Int)) (hx : xs.length ≤ 100) :
    Calls Tryz.prog 76 #[.pointer (some ⟨g, 0, none⟩)] W (StpPost w0 g A n c l s xs 5 W) := by
  obtain ⟨a, b⟩ := bget_ok (intra := s.pt.1) h0 h1
  refine (rd_block w0 g A n c l s xs W h.below hg h.cell (hT.below h.below) (hA.below h.below) hn hsz h.row hx _ (wrap_ok (m := l.length) h0 a (by omega) (by omega))).mono ?_
  intro e W' hp
  obtain ⟨v, A2, c2, hr⟩ := h.block hp
  exact ⟨hp.ret, ⟨v, _, hr, by rw [List.map_append]; rfl⟩, hp.keep, hp.from_⟩
theorem stp_partX {b0 b1 b2 : Nat} (h : RdW w0 g A n c s xs W) (hg : w0.heap.size ≤ g) (hA : Sl w0 A (l.map byteV)) (hn : l.length = n) (hsz : n ≤ 2 ^ 47) (h0 : 0 ≤ s.a) (h1 : s.a ≤ 8 * (l.length : Int)) (hp : partB s.x = true)
    (k0 : Blk W b0 57 #[.pointer (some ⟨g, 0, none⟩)]) (k1 : Blk W b1 3 #[.int .i64 s.x]) (k2 : Blk W b2 102 #[.pointer (some ⟨g, 10, none⟩)]) :
    Calls Tryz.prog 111 #[.pointer (some ⟨b0, 0, none⟩), .pointer (some ⟨b1, 0, none⟩), .pointer (some ⟨b2, 0, none⟩)] W (StpPost w0 g A n c l s xs 2 W) := by
  obtain ⟨a, b, _⟩ := treeR_ok (cs := vecC) (ns := vecN) h0 h1
  refine (rd_partX g b0 b1 b2 s.x A n c l s W h.cell k0 k1 k2 (hA.below h.below) hn hsz (by omega) hp (fun he => vec_get_ok h0 h1 he) _ (wrap_ok (m := l.length) h0 a (by omega) (by omega))).mono ?_
  rintro e W' (⟨hne, rfl, hc, ht⟩ | ⟨he, rfl, hc, ht⟩)
  · have hs : stpS l s 2 = ((s, []), (treeR vecC vecN l s.a).2.2) := if_pos (by simpa using hne)
    exact stp_turn h hg ht (by rw [hs]) (by rw [hs]; exact hc) (by rw [hs]) (by rw [hs])
  · have hs : stpS l s 2 = (({ s with a := s.a + (treeR vecC vecN l s.a).2.1, mx := (turnP s.x (treeR vecC vecN l s.a).1).1 }, []), (turnP s.x (treeR vecC vecN l s.a).1).2) := if_neg (by rw [he]; decide)
    exact stp_turn h hg ht (by rw [hs]) (by rw [hs]; exact hc) (by rw [hs]) (by rw [hs])
theorem stp_partY {b0 b1 b2 : Nat} (h : RdW w0 g A n c s xs W) (hg : w0.heap.size ≤ g) (hA : Sl w0 A (l.map byteV)) (hn : l.length = n) (hsz : n ≤ 2 ^ 47) (h0 : 0 ≤ s.a) (h1 : s.a ≤ 8 * (l.length : Int)) (hp : partB s.y = true)
    (k0 : Blk W b0 57 #[.pointer (some ⟨g, 0, none⟩)]) (k1 : Blk W b1 3 #[.int .i64 s.y]) (k2 : Blk W b2 102 #[.pointer (some ⟨g, 11, none⟩)]) :
    Calls Tryz.prog 111 #[.pointer (some ⟨b0, 0, none⟩), .pointer (some ⟨b1, 0, none⟩), .pointer (some ⟨b2, 0, none⟩)] W (StpPost w0 g A n c l s xs 3 W) := by
  obtain ⟨a, b, _⟩ := treeR_ok (cs := vecC) (ns := vecN) h0 h1
  refine (rd_partY g b0 b1 b2 s.y A n c l s W h.cell k0 k1 k2 (hA.below h.below) hn hsz (by omega) hp (fun he => vec_get_ok h0 h1 he) _ (wrap_ok (m := l.length) h0 a (by omega) (by omega))).mono ?_
  rintro e W' (⟨hne, rfl, hc, ht⟩ | ⟨he, rfl, hc, ht⟩)
  · have hs : stpS l s 3 = ((s, []), (treeR vecC vecN l s.a).2.2) := if_pos (by simpa using hne)
    exact stp_turn h hg ht (by rw [hs]) (by rw [hs]; exact hc) (by rw [hs]) (by rw [hs])
  · have hs : stpS l s 3 = (({ s with a := s.a + (treeR vecC vecN l s.a).2.1, my := (turnP s.y (treeR vecC vecN l s.a).1).1 }, []), (turnP s.y (treeR vecC vecN l s.a).1).2) := if_neg (by rw [he]; decide)
    exact stp_turn h hg ht (by rw [hs]) (by rw [hs]; exact hc) (by rw [hs]) (by rw [hs])
end
end Go.Proofs.YtcojnigkgbmbmaaGreatDoor
namespace Go.Proofs.YtcojnigkgbmbmaaGreatDoor
open Go Go.RowKit
attribute [local go_sem] Oper.semAt_some
theorem rd_steps (g : Nat) (w : World) : Calls Tryz.prog 34 #[.pointer (some ⟨g, 0, none⟩)] w fun e w' => e = .returned (.func (.func 71) #[] #[.pointer (some ⟨w.heap.size, 0, none⟩)]) ∧ w' = w.alloc (.cells #[.pointer (some ⟨g, 0, none⟩)] 57) := by
  go_enter Tryz.func34, Tryz.ntmps34
  go_wp2_with fail
  go_ret
  exact ⟨rfl, rfl⟩
theorem rd_part (g k : Nat) (fr : Int) (w : World) : Calls Tryz.prog 74 #[.pointer (some ⟨g, 0, none⟩), .pointer (some ⟨g, k, none⟩), .int .i64 fr] w fun e w' => e = .returned (.func (.func 111) #[] #[.pointer (some ⟨w.heap.size, 0, none⟩), .pointer (some ⟨w.heap.size + 2, 0, none⟩), .pointer (some ⟨w.heap.size + 1, 0, none⟩)]) ∧
    w' = ((w.alloc (.cells #[.pointer (some ⟨g, 0, none⟩)] 57)).alloc (.cells #[.pointer (some ⟨g, k, none⟩)] 102)).alloc (.cells #[.int .i64 fr] 3) := by
  go_enter Tryz.func74, Tryz.ntmps74
  go_wp2_with fail
  go_ret
  exact ⟨by simp [Nat.add_assoc], rfl⟩
end Go.Proofs.YtcojnigkgbmbmaaGreatDoor
