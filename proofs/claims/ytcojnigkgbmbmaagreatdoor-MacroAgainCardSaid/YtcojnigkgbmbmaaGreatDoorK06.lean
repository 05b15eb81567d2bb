/- BackQ -/
import Derived.Test.YtcojnigkgbmbmaaGreatDoorK02
namespace Go.Proofs.YtcojnigkgbmbmaaGreatDoor
open Go Go.RowKit
theorem bget_at {l : List UInt8} {i : Nat} {x : BlkM} {intra : Bool} (hx : bchkP x intra = 0) (h : At l i (bputP x intra)) : bgetP l i intra = (x, ((bputP x intra).length : Int), 0) := by
  obtain ⟨dc, L⟩ := x
  have h1 := h.1
  unfold bchkP at hx
  unfold bgetP
  rw [if_neg (by omega), if_neg (by omega)]
  unfold bputP at h h1 ⊢
  dsimp only at *
  cases intra with
  | true =>
    simp only [Bool.not_true, if_true] at h h1 ⊢
    rw [Bool.true_and, Bool.not_true, Bool.false_and, if_neg (show ¬ (false = true) by decide)] at hx
    split at hx
    · cases hx
    · rename_i hd
      simp only [Bool.or_eq_true, decide_eq_true_eq, beq_iff_eq, not_or, Int.not_lt] at hd
      rw [List.append_assoc] at h h1 ⊢
      obtain ⟨h2, h3⟩ := h.app
      rw [List.length_append, digL_len] at h1 ⊢
      rw [digL_len] at h3
      have hn := num_at h2 (by omega)
      have hs := spread_len L (a := 1) (by decide) (by decide) hx
      have hb := bpairs_at L 66 (i + 8) false 1 (by omega) (by decide) hx (fun h => by cases h) h3
      have e8 : ((i : Int) + 8) = ((i + 8 : Nat) : Int) := by omega
      have e63 : (64 : Int) - 1 = 63 := by decide
      rw [e63] at hb
      rw [if_neg (by omega), Int.toNat_natCast, hn, e8, hb]
      dsimp only
      rw [if_neg (by simp only [Bool.or_eq_true, beq_iff_eq]; omega), if_neg (by decide)]
      have e9 : ((dc.toNat : Nat) : Int) = dc := by omega
      rw [e9]
      congr 2
      push_cast
      omega
  | false =>
    simp only [Bool.not_false, Bool.false_eq_true, if_false, List.nil_append] at h h1 ⊢
    rw [Bool.false_and, if_neg (show ¬ (false = true) by decide), Bool.not_false, Bool.true_and] at hx
    split at hx
    · cases hx
    · rename_i hd
      simp only [Bool.or_eq_true, bne_iff_ne, beq_iff_eq, not_or, Decidable.not_not] at hd
      have hs := spread_len L (a := 0) (by decide) (by decide) hx
      have hb := bpairs_at L 66 i true 0 (by omega) (by decide) hx (fun _ => hd.2) h
      rw [Int.sub_zero] at hb
      rw [hb]
      dsimp only
      rw [if_neg (by decide), hd.1]
      congr 2
      omega
theorem bget_cut {l : List UInt8} {i : Nat} {x : BlkM} {intra : Bool} (hx : bchkP x intra = 0) (h : Cut l i (bputP x intra)) : bgetP l i intra = (⟨0, []⟩, 0, 5) := by
  obtain ⟨dc, L⟩ := x
  have h1 := h.1
  unfold bchkP at hx
  unfold bgetP
  rw [if_neg (by omega), if_neg (by omega)]
  unfold bputP at h
  dsimp only at *
  cases intra with
  | true =>
    rw [if_pos rfl] at h
    rw [if_pos rfl]
    rw [Bool.true_and, Bool.not_true, Bool.false_and, if_neg (show ¬ (false = true) by decide)] at hx
    split at hx
    · cases hx
    · rename_i hd
      simp only [Bool.or_eq_true, decide_eq_true_eq, beq_iff_eq, not_or, Int.not_lt] at hd
      rw [List.append_assoc] at h
      rcases h.app with h2 | ⟨h2, h3⟩
      · have := h2.2.1
        rw [digL_len] at this
        rw [if_pos (by omega)]
      · have h4 := h2.1
        rw [digL_len] at h3 h4
        have hn := num_at h2 (by omega)
        have hb := bpairs_cut L 66 (i + 8) false 1 (by decide) hx (fun h => by cases h) h3
        have e8 : ((i : Int) + 8) = ((i + 8 : Nat) : Int) := by omega
        have e63 : (64 : Int) - 1 = 63 := by decide
        rw [e63] at hb
        have hb2 : (bpairs l 66 ((i + 8 : Nat) : Int) false 63).2.2 = 5 := by rcases hb with hb | hb; rw [hb]; exact hb
        rw [if_neg (by omega), Int.toNat_natCast, hn, e8, hb2]
        rw [if_neg (by simp only [Bool.or_eq_true, beq_iff_eq]; omega), if_pos (by decide)]
  | false =>
    rw [if_neg (show ¬ (false = true) by decide), List.nil_append] at h
    rw [if_neg (by decide)]
    rw [Bool.false_and, if_neg (show ¬ (false = true) by decide), Bool.not_false, Bool.true_and] at hx
    split at hx
    · cases hx
    · rename_i hd
      simp only [Bool.or_eq_true, bne_iff_ne, beq_iff_eq, not_or, Decidable.not_not] at hd
      have hb := bpairs_cut L 66 i true 0 (by decide) hx (fun _ => hd.2) h
      rw [Int.sub_zero] at hb
      have hb2 : (bpairs l 66 (i : Int) true 64).2.2 = 5 := by rcases hb with hb | hb; rw [hb]; exact hb
      rw [hb2]
      rw [if_pos (by decide)]
theorem bgets_at {l : List UInt8} {intra : Bool} : ∀ (bl : List BlkM) (i : Nat), (∀ b ∈ bl, bchkP b intra = 0) → i ≤ 8 * l.length → At l i (bl.flatMap fun b => bputP b intra) → bgets l intra bl.length i = (bl, (i : Int) + ((bl.flatMap fun b => bputP b intra).length : Int), 0)
  | [], i, _, _, _ => by simp [bgets]
  | b :: bl, i, hb, hi, h => by
    rw [List.flatMap_cons] at h ⊢
    obtain ⟨h1, h2⟩ := h.app
    have hu : bgets l intra (b :: bl).length i = (if (bgetP l i intra).2.2 != 0 then ([], 0, (bgetP l i intra).2.2) else ((bgetP l i intra).1 :: (bgets l intra bl.length (i + (bgetP l i intra).2.1)).1, (bgets l intra bl.length (i + (bgetP l i intra).2.1)).2.1, (bgets l intra bl.length (i + (bgetP l i intra).2.1)).2.2)) := rfl
    rw [hu, bget_at (hb b (by simp)) h1]
    dsimp only
    have ih := bgets_at bl (i + (bputP b intra).length) (fun c hc => hb c (List.mem_cons_of_mem _ hc)) (by have := h1.1; omega) h2
    rw [if_neg (by decide), ← Int.natCast_add, ih, List.length_append]
    congr 2
    push_cast
    omega
theorem bgets_cut {l : List UInt8} {intra : Bool} : ∀ (bl : List BlkM) (i : Nat), (∀ b ∈ bl, bchkP b intra = 0) → Cut l i (bl.flatMap fun b => bputP b intra) → (bgets l intra bl.length i).2.2 = 5
  | [], i, _, h => absurd h Cut.ne
  | b :: bl, i, hb, h => by
    rw [List.flatMap_cons] at h
    have hu : bgets l intra (b :: bl).length i = (if (bgetP l i intra).2.2 != 0 then ([], 0, (bgetP l i intra).2.2) else ((bgetP l i intra).1 :: (bgets l intra bl.length (i + (bgetP l i intra).2.1)).1, (bgets l intra bl.length (i + (bgetP l i intra).2.1)).2.1, (bgets l intra bl.length (i + (bgetP l i intra).2.1)).2.2)) := rfl
    rw [hu]
    rcases h.app with h1 | ⟨h1, h2⟩
    · rw [bget_cut (hb b (by simp)) h1]
      rfl
    · rw [bget_at (hb b (by simp)) h1]
      dsimp only
      rw [if_neg (by decide), ← Int.natCast_add]
      exact bgets_cut bl (i + (bputP b intra).length) (fun c hc => hb c (List.mem_cons_of_mem _ hc)) h2
theorem codeNum {cs : List (List UInt8)} {lo k : Int} (h1 : lo ≤ k) (h2 : (k - lo).toNat < cs.length) (n : Nat) (hn : cs.length = n) (f : Nat → Int) (hf : f (k - lo).toNat = k) : ((((List.range n).map f)[(k - lo).toNat]?).getD 0 : Int) = k := by
  rw [List.getElem?_map, List.getElem?_range (by omega)]
  exact hf
theorem kind_len : kindC.length = kindN.length := by rw [kindC_len]; rfl
theorem vec_len : vecC.length = vecN.length := by rw [vecC_len]; rfl
theorem pat_len : patC.length = patN.length := by rw [patC_len]; rfl
theorem kindP_get {k : Int} (h : inK k = true) : ∃ j, ∃ hj : j < kindC.length, kindP k = kindC[j] ∧ (kindN[j]?).getD 0 = k := by
  unfold inK at h
  simp only [Bool.and_eq_true, decide_eq_true_eq] at h
  refine ⟨(k - 1).toNat, by rw [kindC_len]; omega, ?_, ?_⟩
  · unfold kindP; rw [codeAt_get h.1 (by rw [kindC_len]; omega)]; rfl
  · exact codeNum (cs := kindC) h.1 (by rw [kindC_len]; omega) 10 kindC_len (fun j => (j : Int) + 1) (by omega)
theorem vecP_num {d : Int} (h1 : -16 ≤ d) (h2 : d ≤ 15) : ∃ j, ∃ hj : j < vecC.length, vecP d = vecC[j] ∧ (vecN[j]?).getD 0 = d := by
  refine ⟨(d - -16).toNat, by rw [vecC_len]; omega, ?_, ?_⟩
  · unfold vecP; rw [codeAt_get h1 (by rw [vecC_len]; omega)]; rfl
  · exact codeNum (cs := vecC) h1 (by rw [vecC_len]; omega) 32 vecC_len (fun j => (j : Int) - 16) (by omega)
theorem patP_get {p : Int} (h1 : 1 ≤ p) (h2 : p ≤ 63) : ∃ j, ∃ hj : j < patC.length, patP p = patC[j] ∧ (patN[j]?).getD 0 = p := by
  refine ⟨(p - 1).toNat, by rw [patC_len]; omega, ?_, ?_⟩
  · unfold patP; rw [codeAt_get h1 (by rw [patC_len]; omega)]; rfl
  · exact codeNum (cs := patC) h1 (by rw [patC_len]; omega) 63 patC_len (fun j => (j : Int) + 1) (by omega)
theorem kind_at {l : List UInt8} {i : Nat} {k : Int} (hk : inK k = true) (h : At l i (kindP k)) : treeR kindC kindN l i = (k, ((kindP k).length : Int), 0) := by
  obtain ⟨j, hj, e1, e2⟩ := kindP_get hk
  rw [e1] at h ⊢
  rw [tree_at kind_free kind_code kind_len j hj h, e2]
theorem kind_cut {l : List UInt8} {i : Nat} {k : Int} (hk : inK k = true) (h : Cut l i (kindP k)) : treeR kindC kindN l i = (0, 0, 5) := by
  obtain ⟨j, hj, e1, e2⟩ := kindP_get hk
  rw [e1] at h
  exact tree_cut kind_free kind_code j hj h
theorem turn_diff {fr tv : Int} (h1 : partB fr = true) (h2 : partB tv = true) : turnP fr (diffP fr tv) = (tv, 0) := by
  have hr := diffP_range fr tv
  unfold partB at h1 h2
  simp only [Bool.and_eq_true, decide_eq_true_eq] at h1 h2
  unfold turnP
  have e1 : (!partB fr || decide (diffP fr tv < -16) || decide (15 < diffP fr tv)) = false := by
    unfold partB
    simp only [Bool.or_eq_false_iff, decide_eq_false_iff_not, Bool.not_eq_false', Bool.and_eq_true, decide_eq_true_eq]
    omega
  rw [e1, if_neg (by decide)]
  have pb : ∀ n, partB n = true ↔ (-15 ≤ n ∧ n ≤ 15) := fun n => by unfold partB; simp
  have hd : diffP fr tv = tv - fr ∨ diffP fr tv = tv - fr - 32 ∨ diffP fr tv = tv - fr + 32 := by unfold diffP; omega
  rcases hd with hd | hd | hd
  · have e : fr + diffP fr tv = tv := by omega
    rw [if_pos ((pb _).2 (by omega)), e]
  · have e : fr + diffP fr tv + 32 = tv := by omega
    rw [if_neg (fun h => by have := (pb _).1 h; omega), if_pos ((pb _).2 (by omega)), e]
  · have e : fr + diffP fr tv - 32 = tv := by omega
    rw [if_neg (fun h => by have := (pb _).1 h; omega), if_neg (fun h => by have := (pb _).1 h; omega), if_pos ((pb _).2 (by omega)), e]
theorem vget_at {l : List UInt8} {i : Nat} {pr tv : Int} (h1 : partB pr = true) (h2 : partB tv = true) (h : At l i (movP pr tv)) : vgetP l i pr = (tv, (i : Int) + ((movP pr tv).length : Int), 0) := by
  have hr := diffP_range pr tv
  unfold movP at h ⊢
  obtain ⟨j, hj, e1, e2⟩ := vecP_num hr.1 hr.2
  rw [e1] at h ⊢
  unfold vgetP
  rw [tree_at vec_free vec_code vec_len j hj h, e2]
  dsimp only
  rw [if_neg (by decide), turn_diff h1 h2]
theorem vget_cut {l : List UInt8} {i : Nat} {pr tv : Int} (h : Cut l i (movP pr tv)) : vgetP l i pr = (0, 0, 5) := by
  have hr := diffP_range pr tv
  unfold movP at h
  obtain ⟨j, hj, e1, e2⟩ := vecP_num hr.1 hr.2
  rw [e1] at h
  unfold vgetP
  rw [tree_cut vec_free vec_code j hj h]
  rfl
def mQ (m : MacM) : List UInt8 := if pQ m.kd then digL m.qu.toNat 5 else []
def mV (m : MacM) (a b : Int) : List UInt8 := if pV m.kd then movP a m.x ++ movP b m.y else []
def mC (m : MacM) : List UInt8 := if pC m.kd then patP m.pa else []
def mB (m : MacM) : List UInt8 := m.bl.flatMap fun b => bputP b (pI m.kd)
theorem mputL_parts (m : MacM) (x : LastM) : mputL m x = kindP m.kd ++ (mQ m ++ (mV m (predP m.ad (m.ad - x.ad) x.had x.x x.y).1 (predP m.ad (m.ad - x.ad) x.had x.x x.y).2 ++ (mC m ++ mB m))) := by
  unfold mputL mQ mV mC mB
  simp only [List.append_assoc]
structure MOk (m : MacM) : Prop where
  kd : inK m.kd = true
  a1 : 1 ≤ m.ad
  a2 : m.ad ≤ 33
  px : partB m.x = true
  py : partB m.y = true
  pv : pV m.kd = false → m.x = 0 ∧ m.y = 0
  q1 : pQ m.kd = true → 1 ≤ m.qu ∧ m.qu ≤ 31
  q0 : pQ m.kd = false → m.qu = 0
  i1 : pI m.kd = true → m.pa = 63
  c1 : pI m.kd = false → pC m.kd = true → 1 ≤ m.pa ∧ m.pa ≤ 63
  c0 : pI m.kd = false → pC m.kd = false → m.pa = 0
  len : m.bl.length = cntP m.pa
  bl : ∀ b ∈ m.bl, bchkP b (pI m.kd) = 0
theorem okM_iff (m : MacM) : okM m = true ↔ MOk m := by
  unfold okM
  simp only [Bool.and_eq_true, Bool.or_eq_true, decide_eq_true_eq, beq_iff_eq, List.all_eq_true]
  constructor
  · rintro ⟨⟨⟨⟨⟨⟨⟨⟨⟨a, b⟩, c⟩, d⟩, e⟩, f⟩, g⟩, h⟩, i⟩, j⟩
    refine ⟨a, b, c, d, e, fun h0 => ?_, fun h0 => ?_, fun h0 => ?_, fun h0 => ?_, fun h0 h1 => ?_, fun h0 h1 => ?_, i, j⟩
    · rcases f with f | f
      · rw [h0] at f; cases f
      · exact f
    · rw [h0] at g; simpa using g
    · rw [h0] at g; simpa using g
    · rw [h0] at h; simpa using h
    · rw [h0, h1] at h; simpa using h
    · rw [h0, h1] at h; simpa using h
  · rintro ⟨a, b, c, d, e, f, g, g', h, h1, h2, i, j⟩
    refine ⟨⟨⟨⟨⟨⟨⟨⟨⟨a, b⟩, c⟩, d⟩, e⟩, ?_⟩, ?_⟩, ?_⟩, i⟩, j⟩
    · cases hv : pV m.kd with
      | true => exact .inl rfl
      | false => exact .inr (f hv)
    · cases hq : pQ m.kd with
      | true => simpa using g hq
      | false => simpa using g' hq
    · cases hi : pI m.kd with
      | true => simpa using h hi
      | false =>
        cases hc : pC m.kd with
        | true => simpa using h1 hi hc
        | false => simpa using h2 hi hc
theorem mq_at {l : List UInt8} {i : Nat} {m : MacM} (hm : MOk m) (h : At l i (mQ m)) : mq l m.kd i = (m.qu, (i : Int) + ((mQ m).length : Int), 0) := by
  unfold mq mQ at *
  cases hq : pQ m.kd with
  | true =>
    rw [hq, if_pos rfl] at h
    rw [if_pos rfl, if_pos rfl, digL_len]
    have := hm.q1 hq
    have h1 := h.1
    rw [digL_len] at h1
    have hn := num_at h (by omega)
    rw [if_neg (by omega), Int.toNat_natCast, hn, if_neg (by simp only [beq_iff_eq]; omega)]
    have e : ((m.qu.toNat : Nat) : Int) = m.qu := by omega
    rw [e]; rfl
  | false => rw [if_neg (by decide), if_neg (by decide), hm.q0 hq]; simp
theorem mq_cut {l : List UInt8} {i : Nat} {m : MacM} (h : Cut l i (mQ m)) : (mq l m.kd i).2.2 = 5 := by
  unfold mq mQ at *
  cases hq : pQ m.kd with
  | true =>
    rw [hq, if_pos rfl] at h
    have h1 := h.2.1
    rw [digL_len] at h1
    rw [if_pos rfl, if_pos (by omega)]
  | false => rw [hq, if_neg (by decide)] at h; exact absurd h Cut.ne
theorem mv_at {l : List UInt8} {i : Nat} {m : MacM} {a b : Int} (ha : partB a = true) (hb : partB b = true) (hm : MOk m) (h : At l i (mV m a b)) : mv l m.kd i a b = ((m.x, m.y), (i : Int) + ((mV m a b).length : Int), 0) := by
  unfold mv mV at *
  cases hv : pV m.kd with
  | true =>
    rw [hv, if_pos rfl] at h
    rw [if_pos rfl, if_pos rfl]
    obtain ⟨h1, h2⟩ := h.app
    rw [vget_at ha hm.px h1]
    dsimp only
    rw [if_neg (by decide), ← Int.natCast_add, vget_at hb hm.py h2, List.length_append]
    dsimp only
    rw [if_neg (by decide)]
    congr 2
    push_cast
    omega
  | false =>
    obtain ⟨e1, e2⟩ := hm.pv hv
    rw [if_neg (by decide), if_neg (by decide), e1, e2]
    simp
theorem mv_cut {l : List UInt8} {i : Nat} {m : MacM} {a b : Int} (ha : partB a = true) (hm : MOk m) (h : Cut l i (mV m a b)) : (mv l m.kd i a b).2.2 = 5 := by
  unfold mv mV at *
  cases hv : pV m.kd with
  | true =>
    rw [hv, if_pos rfl] at h
    rw [if_pos rfl]
    rcases h.app with h1 | ⟨h1, h2⟩
    · rw [vget_cut h1]; rfl
    · rw [vget_at ha hm.px h1]
      dsimp only
      rw [if_neg (by decide), ← Int.natCast_add, vget_cut h2]
      rfl
  | false => rw [hv, if_neg (by decide)] at h; exact absurd h Cut.ne
theorem pIC' {k : Int} (h : pC k = true) : pI k = false := by
  unfold pC at h
  unfold pI
  simp only [Bool.or_eq_true, beq_iff_eq] at h
  rcases h with ((((h | h) | h) | h) | h) | h <;> subst h <;> rfl
theorem mc_at {l : List UInt8} {i : Nat} {m : MacM} (hm : MOk m) (h : At l i (mC m)) : mc l m.kd i = (m.pa, (i : Int) + ((mC m).length : Int), 0) := by
  unfold mc mC at *
  cases hc : pC m.kd with
  | true =>
    rw [hc, if_pos rfl] at h
    rw [if_pos rfl, if_pos rfl]
    have hp := hm.c1 (pIC' hc) hc
    obtain ⟨j, hj, e1, e2⟩ := patP_get hp.1 hp.2
    rw [e1] at h ⊢
    rw [tree_at pat_free pat_code pat_len j hj h, e2]
    rfl
  | false =>
    simp only [Bool.false_eq_true, if_false]
    cases hi : pI m.kd with
    | true => rw [hm.i1 hi]; simp
    | false => rw [hm.c0 hi hc]; simp
theorem mc_cut {l : List UInt8} {i : Nat} {m : MacM} (hm : MOk m) (h : Cut l i (mC m)) : (mc l m.kd i).2.2 = 5 := by
  unfold mc mC at *
  cases hc : pC m.kd with
  | true =>
    rw [hc, if_pos rfl] at h
    rw [if_pos rfl]
    have hp := hm.c1 (pIC' hc) hc
    obtain ⟨j, hj, e1, e2⟩ := patP_get hp.1 hp.2
    rw [e1] at h
    rw [tree_cut pat_free pat_code j hj h]
    rfl
  | false => rw [hc, if_neg (by decide)] at h; exact absurd h Cut.ne
theorem pred_part {x : LastM} {ad : Int} (h : aheadB x ad = true) : partB (predP ad (ad - x.ad) x.had x.x x.y).1 = true ∧ partB (predP ad (ad - x.ad) x.had x.x x.y).2 = true := by
  unfold aheadB at h
  simp only [Bool.and_eq_true] at h
  unfold predP
  split
  · exact ⟨rfl, rfl⟩
  · exact ⟨h.1.1.2, h.1.2⟩
theorem mget_at {l : List UInt8} {i : Nat} {m : MacM} {x : LastM} (hm : MOk m) (hx : aheadB x m.ad = true) (h : At l i (mputL m x)) : mgetP l i m.ad x = (m, ((mputL m x).length : Int), 0) := by
  have hp := pred_part hx
  have hm1 := hm.a1; have hm2 := hm.a2
  rw [mputL_parts] at h ⊢
  unfold mgetP
  rw [if_neg (by omega), hx]
  rw [if_neg (by decide)]
  generalize predP m.ad (m.ad - x.ad) x.had x.x x.y = pr at *
  dsimp only
  obtain ⟨h1, h⟩ := h.app
  obtain ⟨h2, h⟩ := h.app
  obtain ⟨h3, h⟩ := h.app
  obtain ⟨h4, h5⟩ := h.app
  rw [kind_at hm.kd h1]
  dsimp only
  rw [if_neg (by decide), ← Int.natCast_add, mq_at hm h2]
  dsimp only
  rw [if_neg (by decide), ← Int.natCast_add, mv_at hp.1 hp.2 hm h3]
  dsimp only
  rw [if_neg (by decide), ← Int.natCast_add, mc_at hm h4]
  dsimp only
  have h6 := bgets_at m.bl (i + (kindP m.kd).length + (mQ m).length + (mV m pr.1 pr.2).length + (mC m).length) hm.bl (by have := h5.1; omega) h5
  rw [if_neg (by decide), ← Int.natCast_add, ← hm.len, h6]
  dsimp only
  rw [if_neg (by decide)]
  have e : (mB m) = m.bl.flatMap fun b => bputP b (pI m.kd) := rfl
  simp only [List.length_append]
  rw [← e]
  obtain ⟨ad, kd, qu, mx, my, pa, bl⟩ := m
  congr 2
  push_cast
  omega
theorem mget_cut {l : List UInt8} {i : Nat} {m : MacM} {x : LastM} (hm : MOk m) (hx : aheadB x m.ad = true) (h : Cut l i (mputL m x)) : mgetP l i m.ad x = (m0, 0, 5) := by
  have hp := pred_part hx
  have hm1 := hm.a1; have hm2 := hm.a2
  rw [mputL_parts] at h
  unfold mgetP
  rw [if_neg (by omega), hx]
  rw [if_neg (by decide)]
  generalize predP m.ad (m.ad - x.ad) x.had x.x x.y = pr at *
  dsimp only
  rcases h.app with h1 | ⟨h1, h⟩
  · rw [kind_cut hm.kd h1]; rfl
  rw [kind_at hm.kd h1]
  dsimp only
  rw [if_neg (by decide), ← Int.natCast_add]
  rcases h.app with h2 | ⟨h2, h⟩
  · rw [mq_cut h2]; rfl
  rw [mq_at hm h2]
  dsimp only
  rw [if_neg (by decide), ← Int.natCast_add]
  rcases h.app with h3 | ⟨h3, h⟩
  · rw [mv_cut hp.1 hm h3]; rfl
  rw [mv_at hp.1 hp.2 hm h3]
  dsimp only
  rw [if_neg (by decide), ← Int.natCast_add]
  rcases h.app with h4 | ⟨h4, h5⟩
  · rw [mc_cut hm h4]; rfl
  rw [mc_at hm h4]
  dsimp only
  have h6 := bgets_cut m.bl (i + (kindP m.kd).length + (mQ m).length + (mV m pr.1 pr.2).length + (mC m).length) hm.bl h5
  rw [if_neg (by decide), ← Int.natCast_add, ← hm.len, h6]
  rfl
end Go.Proofs.YtcojnigkgbmbmaaGreatDoor
