/- Plain laws of lines: what is read is written, what is written is read, two parts of a text. -/
import Derived.Test.YthcbidbhkikhmaaDoorKnown31
namespace Go.Proofs.YthcbidbhkikhmaaDoor
open Go Go.RowKit
theorem dig_step (n : Nat) (h : 9 < n) : digR n = digR (n / 10) ++ digR (n % 10) := by rw [digR, if_pos h]
theorem dig_one (n : Nat) (h : n ≤ 9) : digR n = [UInt8.ofNat (48 + n)] := by rw [digR, if_neg (by omega)]
theorem dig_toNat (n : Nat) (h : n ≤ 9) : (UInt8.ofNat (48 + n)).toNat = 48 + n := by rw [UInt8.toNat_ofNat']; omega
theorem dig_good (n : Nat) : (digR n).all isDig = true ∧ valN (digR n) = n ∧ digR n ≠ [] ∧ (0 < n → (digR n).getD 0 0 ≠ 48) := by
  induction n using Nat.strongRecOn with
  | ind n ih =>
    by_cases h : 9 < n
    · obtain ⟨h1, h2, h3, h4⟩ := ih (n / 10) (by omega)
      have h5 := h4 (by omega)
      rw [dig_step n h, dig_one (n % 10) (by omega)]
      refine ⟨?_, ?_, by simp, fun _ => ?_⟩
      · rw [List.all_append, h1, Bool.true_and, List.all_cons, List.all_nil, Bool.and_true]
        simp only [isDig, dig_toNat (n % 10) (by omega), Bool.and_eq_true, decide_eq_true_eq]
        omega
      · rw [valN_app, h2, dig_toNat (n % 10) (by omega)]; omega
      · cases hd : digR (n / 10) with
        | nil => exact absurd hd h3
        | cons a r => rw [hd] at h5; exact h5
    · rw [dig_one n (by omega)]
      have ht := dig_toNat n (by omega)
      refine ⟨?_, ?_, by simp, fun h0 => ?_⟩
      · simp only [List.all_cons, List.all_nil, Bool.and_true, isDig, ht, Bool.and_eq_true, decide_eq_true_eq]; omega
      · show 10 * 0 + ((UInt8.ofNat (48 + n)).toNat - 48) = n
        rw [ht]; omega
      · intro e
        have e' : UInt8.ofNat (48 + n) = 48 := e
        have := congrArg UInt8.toNat e'
        rw [ht] at this
        have h48 : (48 : UInt8).toNat = 48 := rfl
        omega
theorem num_dig (n : Nat) (h : n ≤ 9999999999) : numR (digR n) = (n, true) := by
  obtain ⟨h1, h2, h3, h4⟩ := dig_good n
  have hl := dig_small n h
  have hne : ¬ (digR n).length = 0 := fun e => h3 (List.eq_nil_of_length_eq_zero e)
  unfold numR
  rw [if_neg, if_pos h1, h2]
  rintro (e | e | ⟨e, e2⟩)
  · exact hne e
  · omega
  · by_cases h0 : 0 < n
    · exact h4 h0 e2
    · have : n = 0 := by omega
      subst this
      rw [dig_one 0 (by omega)] at e
      simp at e
theorem digit_back (c : UInt8) (h : isDig c = true) : digR (c.toNat - 48) = [c] := by
  simp only [isDig, Bool.and_eq_true, decide_eq_true_eq] at h
  rw [dig_one _ (by omega)]
  congr 1
  apply UInt8.toNat.inj
  rw [dig_toNat _ (by omega)]
  omega
theorem val_back (s : List UInt8) (hne : s ≠ []) (hd : s.all isDig = true) (h0 : s.getD 0 0 ≠ 48) : digR (valN s) = s ∧ 0 < valN s := by
  generalize hk : s.length = k
  induction k generalizing s with
  | zero => exact absurd (List.eq_nil_of_length_eq_zero hk) hne
  | succ k ih =>
    obtain ⟨t, c, rfl⟩ : ∃ t c, s = t ++ [c] := ⟨s.dropLast, s.getLast hne, (List.dropLast_concat_getLast hne).symm⟩
    rw [List.all_append, Bool.and_eq_true] at hd
    have hc : isDig c = true := by simpa using hd.2
    have hc2 := hc
    simp only [isDig, Bool.and_eq_true, decide_eq_true_eq] at hc2
    rw [valN_app]
    by_cases ht : t = []
    · subst ht
      have h00 : c ≠ 48 := h0
      have hn : c.toNat ≠ 48 := fun e => h00 (UInt8.toNat.inj e)
      have hv : valN ([] : List UInt8) = 0 := rfl
      rw [hv, Nat.mul_zero, Nat.zero_add, digit_back c hc]
      exact ⟨rfl, by omega⟩
    · have hg : t.getD 0 0 ≠ 48 := by
        cases t with
        | nil => exact absurd rfl ht
        | cons a r => exact h0
      obtain ⟨i1, i2⟩ := ih t ht hd.1 hg (by simpa using hk)
      rw [dig_step _ (by omega), show (10 * valN t + (c.toNat - 48)) / 10 = valN t by omega, show (10 * valN t + (c.toNat - 48)) % 10 = c.toNat - 48 by omega, i1, digit_back c hc]
      exact ⟨rfl, by omega⟩
theorem num_back {s : List UInt8} (h : (numR s).2 = true) : digR (numR s).1 = s ∧ (numR s).1 ≤ 9999999999 := by
  unfold numR at h ⊢
  split at h
  · cases h
  · rename_i hn
    rw [if_neg hn]
    split at h
    · rename_i hd
      rw [if_pos hd]
      have hne : s ≠ [] := fun e => hn (Or.inl (by simp [e]))
      have hlt := valN_lt s hd
      have hle : 10 ^ s.length ≤ 10 ^ 10 := Nat.pow_le_pow_right (by decide) (by omega)
      refine ⟨?_, ?_⟩
      · show digR (valN s) = s
        by_cases h1 : 1 < s.length
        · exact (val_back s hne hd (fun e => hn (Or.inr (Or.inr ⟨h1, e⟩)))).1
        · match s, hne with
          | [c], _ =>
            have hc : isDig c = true := by simpa using hd
            show digR (10 * 0 + (c.toNat - 48)) = [c]
            rw [Nat.mul_zero, Nat.zero_add, digit_back c hc]
          | _ :: _ :: _, _ => simp at h1
      · show valN s ≤ 9999999999
        have : (10 : Nat) ^ 10 = 10000000000 := by decide
        omega
    · cases h
theorem half_hex : ∀ n : Nat, n < 16 → halfR (hexD n) = n := by decide
theorem hex_half' : ∀ n : Nat, n < 256 → halfR (UInt8.ofNat n) ≤ 15 → hexD (halfR (UInt8.ofNat n)) = UInt8.ofNat n := by decide +kernel
theorem hex_half (c : UInt8) (h : halfR c ≤ 15) : hexD (halfR c) = c := by
  have := hex_half' c.toNat (UInt8.toNat_lt c)
  rw [UInt8.ofNat_toNat] at this
  exact this h
theorem pairN_succ (a b : UInt8) (t : List UInt8) (j : Nat) : pairN (a :: b :: t) (j + 1) = pairN t j := by
  unfold pairN
  rw [show 2 * (j + 1) = 2 * j + 1 + 1 by omega]
  rfl
theorem unhex_cons (a b : UInt8) (t : List UInt8) (k : Nat) : unhexL (a :: b :: t) (k + 1) = UInt8.ofNat (16 * halfR a + halfR b) :: unhexL t k := by
  unfold unhexL
  rw [List.range_succ_eq_map, List.map_cons, List.map_map]
  congr 1
theorem hex_cons (b : UInt8) (l : List UInt8) : hexL (b :: l) = hexD (b.toNat / 16) :: hexD (b.toNat % 16) :: hexL l := rfl
theorem unhex_hex : ∀ l : List UInt8, unhexL (hexL l) l.length = l
  | [] => rfl
  | b :: l => by
    have hb := UInt8.toNat_lt b
    rw [hex_cons, List.length_cons, unhex_cons, unhex_hex l, half_hex _ (by omega), half_hex _ (by omega)]
    congr 1
    apply UInt8.toNat.inj
    rw [UInt8.toNat_ofNat']
    omega
theorem hex_all : ∀ l : List UInt8, (hexL l).all isHex = true
  | [] => rfl
  | b :: l => by
    have hb := UInt8.toNat_lt b
    rw [hex_cons, List.all_cons, List.all_cons, hex_all l, Bool.and_true]
    simp only [isHex, Bool.and_eq_true, decide_eq_true_eq]
    rw [half_hex _ (by omega), half_hex _ (by omega)]
    omega
theorem hex_unhex : ∀ (k : Nat) (s : List UInt8), s.length = 2 * k → s.all isHex = true → hexL (unhexL s k) = s
  | 0, s, h, _ => by
    have : s = [] := List.eq_nil_of_length_eq_zero (by omega)
    subst this; rfl
  | k + 1, [], h, _ => by simp at h
  | k + 1, [_], h, _ => by simp at h; omega
  | k + 1, a :: b :: t, h, hd => by
    simp only [List.all_cons, Bool.and_eq_true, isHex, decide_eq_true_eq] at hd
    obtain ⟨ha, hb, ht⟩ := hd
    have ht' : t.all isHex = true := ht
    rw [unhex_cons, hex_cons, hex_unhex k t (by simp at h; omega) ht']
    have hv : (UInt8.ofNat (16 * halfR a + halfR b)).toNat = 16 * halfR a + halfR b := by rw [UInt8.toNat_ofNat']; omega
    rw [hv, show (16 * halfR a + halfR b) / 16 = halfR a by omega, show (16 * halfR a + halfR b) % 16 = halfR b by omega, hex_half a ha, hex_half b hb]
theorem bytes_hex (l : List UInt8) (h : l.length ≤ 1000) : bytesR (hexR l) = (l, true) := by
  unfold hexR
  split
  · rename_i h0
    subst h0; rfl
  · rename_i h0
    have hl := hexL_length l
    have hne : 0 < l.length := List.length_pos_iff.2 h0
    unfold bytesR
    rw [if_neg (fun e => by have := congrArg List.length e; simp at this; omega), if_neg (by
      rintro (e | e | e)
      · rw [e] at hl; simp at hl; omega
      · omega
      · omega), if_pos (hex_all l), show (hexL l).length / 2 = l.length by omega, unhex_hex]
theorem bytes_back {s : List UInt8} (h : (bytesR s).2 = true) : hexR (bytesR s).1 = s ∧ (bytesR s).1.length ≤ 1000 := by
  unfold bytesR at h ⊢
  split at h
  · rename_i h0
    subst h0
    rw [if_pos rfl]
    exact ⟨rfl, by simp⟩
  · rename_i h0
    rw [if_neg h0]
    split at h
    · cases h
    · rename_i h1
      rw [if_neg h1]
      split at h
      · rename_i hd
        rw [if_pos hd]
        have hn : s ≠ [] := fun e => h1 (Or.inl e)
        have hp : 0 < s.length := List.length_pos_iff.2 hn
        have he : s.length = 2 * (s.length / 2) := by omega
        have hl := unhexL_length s (s.length / 2)
        refine ⟨?_, by show (unhexL s (s.length / 2)).length ≤ 1000; rw [hl]; omega⟩
        show hexR (unhexL s (s.length / 2)) = s
        unfold hexR
        rw [if_neg (fun e => by rw [e] at hl; simp at hl; omega)]
        exact hex_unhex _ s he hd
      · cases h
def joinL (c : UInt8) : List (List UInt8) → List UInt8
  | [] => []
  | [x] => x
  | x :: y :: l => x ++ c :: joinL c (y :: l)
theorem splitS_ne (c : UInt8) (s : List UInt8) : splitS c s ≠ [] := by
  cases s with
  | nil => simp [splitS]
  | cons x s =>
    unfold splitS
    split
    · simp
    · split <;> simp
theorem join_split (c : UInt8) : ∀ s : List UInt8, joinL c (splitS c s) = s
  | [] => rfl
  | x :: s => by
    have ih := join_split c s
    unfold splitS
    split
    · rename_i h
      subst h
      cases hs : splitS x s with
      | nil => exact absurd hs (splitS_ne x s)
      | cons p ps => rw [hs] at ih; show [] ++ x :: joinL x (p :: ps) = x :: s; rw [ih]; rfl
    · cases hs : splitS c s with
      | nil => exact absurd hs (splitS_ne c s)
      | cons p ps =>
        rw [hs] at ih
        cases ps with
        | nil => show x :: p = x :: s; rw [show p = s from ih]
        | cons q qs => show (x :: p) ++ c :: joinL c (q :: qs) = x :: s; rw [← ih]; rfl
theorem split_one (c : UInt8) : ∀ s : List UInt8, c ∉ s → splitS c s = [s]
  | [], _ => rfl
  | x :: s, h => by
    have h1 : ¬ x = c := fun e => h (by simp [e])
    have h2 : c ∉ s := fun e => h (by simp [e])
    unfold splitS
    rw [if_neg h1, split_one c s h2]
theorem split_app (c : UInt8) : ∀ s r : List UInt8, splitS c (s ++ c :: r) = splitS c s ++ splitS c r
  | [], r => by
    show (if c = c then [] :: splitS c r else _) = _
    rw [if_pos rfl]; rfl
  | x :: s, r => by
    have ih := split_app c s r
    show splitS c (x :: (s ++ c :: r)) = splitS c (x :: s) ++ splitS c r
    rw [splitS, splitS]
    by_cases h : x = c
    · rw [if_pos h, if_pos h, ih]; rfl
    · rw [if_neg h, if_neg h, ih]
      cases hs : splitS c s with
      | nil => exact absurd hs (splitS_ne c s)
      | cons p ps => rfl
def Fit : List UInt8 → List (List UInt8) → OpN → OpN → Prop
  | [], [], o, o' => o = o'
  | c :: t, x :: xs, o, o' => ∃ o1, readR c x o = some o1 ∧ Fit t xs o1 o'
  | _, _, _, _ => False
theorem fit_of_run : ∀ (xs : List (List UInt8)) (t : List UInt8) (pos : Nat) (o : OpN) (st : StN), xs.foldl nextP (.ok ⟨true, t, pos, o⟩) = .ok st → st.t = [] → Fit t xs o st.o
  | [], t, pos, o, st, h, h0 => by
    have : (⟨true, t, pos, o⟩ : StN) = st := by simpa using h
    subst this
    have h0' : t = [] := h0
    subst h0'
    rfl
  | x :: xs, [], pos, o, st, h, h0 => by
    have h' : xs.foldl nextP (.error (pos - 1)) = .ok st := h
    rw [foldl_err] at h'; cases h'
  | x :: xs, c :: t, pos, o, st, h, h0 => by
    rw [List.foldl_cons] at h
    cases hr : readR c x o with
    | none =>
      have e : nextP (.ok ⟨true, c :: t, pos, o⟩) x = .error pos := by simp [nextP, stepP, hr]
      rw [e, foldl_err] at h; cases h
    | some o1 =>
      have e : nextP (.ok ⟨true, c :: t, pos, o⟩) x = .ok ⟨true, t, pos + (x.length + 1), o1⟩ := by simp [nextP, stepP, hr]
      rw [e] at h
      exact ⟨o1, hr, fit_of_run xs t _ o1 st h h0⟩
theorem run_of_fit : ∀ (xs : List (List UInt8)) (t : List UInt8) (pos : Nat) (o o' : OpN), Fit t xs o o' → ∃ st, xs.foldl nextP (.ok ⟨true, t, pos, o⟩) = .ok st ∧ st.t = [] ∧ st.o = o'
  | [], [], pos, o, o', h => ⟨⟨true, [], pos, o⟩, rfl, rfl, h⟩
  | [], _ :: _, _, _, _, h => h.elim
  | _ :: _, [], _, _, _, h => h.elim
  | x :: xs, c :: t, pos, o, o', h => by
    obtain ⟨o1, hr, h⟩ := h
    obtain ⟨st, h1, h2⟩ := run_of_fit xs t (pos + (x.length + 1)) o1 o' h
    refine ⟨st, ?_, h2⟩
    rw [List.foldl_cons]
    have e : nextP (.ok ⟨true, c :: t, pos, o⟩) x = .ok ⟨true, t, pos + (x.length + 1), o1⟩ := by simp [nextP, stepP, hr]
    rw [e, h1]
theorem read_i {x : List UInt8} {o o' : OpN} (h : readR 105 x o = some o') : ∃ v, o' = { o with id := v } ∧ digR v = x ∧ v ≤ 9999999999 := by
  unfold readR at h
  rw [if_pos rfl] at h
  split at h
  · rename_i hn
    have e := Option.some.inj h
    exact ⟨_, e.symm, num_back hn⟩
  · cases h
theorem read_n {x : List UInt8} {o o' : OpN} (h : readR 110 x o = some o') : ∃ v, o' = { o with n := v } ∧ digR v = x ∧ v ≤ 9999999999 := by
  unfold readR at h
  rw [if_neg (by decide), if_pos rfl] at h
  split at h
  · rename_i hn
    have e := Option.some.inj h
    exact ⟨_, e.symm, num_back hn⟩
  · cases h
theorem read_b {x : List UInt8} {o o' : OpN} (h : readR 98 x o = some o') : ∃ l, o' = { o with b := l } ∧ hexR l = x ∧ l.length ≤ 1000 := by
  unfold readR at h
  rw [if_neg (by decide), if_neg (by decide)] at h
  split at h
  · rename_i hn
    have e := Option.some.inj h
    exact ⟨_, e.symm, bytes_back hn⟩
  · cases h
/-- what is read may be, and its line is the one that was read -/
theorem only_back {line : List UInt8} {o : OpN} (h : refP line = .ok o) : okP o.w (o.id : Int) (o.n : Int) o.b.length = true ∧ lineR o.w (o.id : Int) (o.n : Int) o.b = (line, 0) := by
  rw [← par_ref] at h
  unfold parP at h
  split at h
  · cases h
  rw [split_S] at h
  have hj := join_split 32 line
  cases hs : splitS 32 line with
  | nil => exact absurd hs (splitS_ne 32 line)
  | cons x0 xs =>
    rw [hs] at h hj
    cases hp : partsR x0 with
    | none =>
      have e : runP (x0 :: xs) = .error 0 := by
        show xs.foldl nextP (nextP (.ok ⟨false, [], 0, OpN.none⟩) x0) = _
        have e1 : nextP (.ok ⟨false, [], 0, OpN.none⟩) x0 = .error 0 := by simp [nextP, stepP, hp]
        rw [e1, foldl_err]
      rw [e] at h; cases h
    | some p =>
      have e : runP (x0 :: xs) = xs.foldl nextP (.ok ⟨true, lettersR p, 0 + (x0.length + 1), ⟨x0, 0, 0, []⟩⟩) := by
        show xs.foldl nextP (nextP (.ok ⟨false, [], 0, OpN.none⟩) x0) = _
        have e1 : nextP (.ok ⟨false, [], 0, OpN.none⟩) x0 = .ok ⟨true, lettersR p, 0 + (x0.length + 1), ⟨x0, 0, 0, []⟩⟩ := by simp [nextP, stepP, hp]
        rw [e1]
      rw [e] at h
      cases hr : xs.foldl nextP (.ok ⟨true, lettersR p, 0 + (x0.length + 1), ⟨x0, 0, 0, []⟩⟩) with
      | error b => rw [hr] at h; cases h
      | ok st =>
        rw [hr] at h
        have h' : (if st.t = [] then Except.ok st.o else Except.error (14, line.length)) = (Except.ok o : Except (Nat × Nat) OpN) := h
        split at h'
        · rename_i ht
          have ho : st.o = o := by injection h'
          have hf := fit_of_run xs _ _ _ st hr ht
          rw [ho] at hf
          suffices hm : o.w = x0 ∧ okP o.w (o.id : Int) (o.n : Int) o.b.length = true ∧ lineP x0 p o.id o.n o.b = line by
            obtain ⟨hw, hok, hl⟩ := hm
            refine ⟨hok, ?_⟩
            unfold lineR
            rw [if_pos hok, hw, hp]
            show (lineP x0 p (o.id : Int).toNat (o.n : Int).toNat o.b, (0 : Int)) = (line, 0)
            rw [Int.toNat_natCast, Int.toNat_natCast, hl]
          obtain ⟨i, n, b⟩ := p
          rw [← hj]
          cases i <;> cases n <;> cases b
          · match xs, hf with
            | [], hf => cases hf; exact ⟨rfl, (okP_some hp).2 ⟨Or.inl rfl, Or.inl rfl, by simp, Or.inl rfl⟩, by simp [lineP, lettersR, joinL]⟩
          · match xs, hf with
            | [x1], ⟨o1, hr1, hf⟩ =>
              obtain ⟨l, rfl, rfl, hl⟩ := read_b hr1
              cases hf
              exact ⟨rfl, (okP_some hp).2 ⟨Or.inl rfl, Or.inl rfl, hl, Or.inr rfl⟩, by simp [lineP, lettersR, joinL, pieceR]⟩
          · match xs, hf with
            | [x1], ⟨o1, hr1, hf⟩ =>
              obtain ⟨v, rfl, rfl, hv⟩ := read_n hr1
              cases hf
              exact ⟨rfl, (okP_some hp).2 ⟨Or.inl rfl, by simp; omega, by simp, Or.inl rfl⟩, by simp [lineP, lettersR, joinL, pieceR]⟩
          · match xs, hf with
            | [x1, x2], ⟨o1, hr1, o2, hr2, hf⟩ =>
              obtain ⟨v, rfl, rfl, hv⟩ := read_n hr1
              obtain ⟨l, rfl, rfl, hl⟩ := read_b hr2
              cases hf
              exact ⟨rfl, (okP_some hp).2 ⟨Or.inl rfl, by simp; omega, hl, Or.inr rfl⟩, by simp [lineP, lettersR, joinL, pieceR]⟩
          · match xs, hf with
            | [x1], ⟨o1, hr1, hf⟩ =>
              obtain ⟨v, rfl, rfl, hv⟩ := read_i hr1
              cases hf
              exact ⟨rfl, (okP_some hp).2 ⟨by simp; omega, Or.inl rfl, by simp, Or.inl rfl⟩, by simp [lineP, lettersR, joinL, pieceR]⟩
          · match xs, hf with
            | [x1, x2], ⟨o1, hr1, o2, hr2, hf⟩ =>
              obtain ⟨v, rfl, rfl, hv⟩ := read_i hr1
              obtain ⟨l, rfl, rfl, hl⟩ := read_b hr2
              cases hf
              exact ⟨rfl, (okP_some hp).2 ⟨by simp; omega, Or.inl rfl, hl, Or.inr rfl⟩, by simp [lineP, lettersR, joinL, pieceR]⟩
          · match xs, hf with
            | [x1, x2], ⟨o1, hr1, o2, hr2, hf⟩ =>
              obtain ⟨v, rfl, rfl, hv⟩ := read_i hr1
              obtain ⟨u, rfl, rfl, hu⟩ := read_n hr2
              cases hf
              exact ⟨rfl, (okP_some hp).2 ⟨by simp; omega, by simp; omega, by simp, Or.inl rfl⟩, by simp [lineP, lettersR, joinL, pieceR]⟩
          · match xs, hf with
            | [x1, x2, x3], ⟨o1, hr1, o2, hr2, o3, hr3, hf⟩ =>
              obtain ⟨v, rfl, rfl, hv⟩ := read_i hr1
              obtain ⟨u, rfl, rfl, hu⟩ := read_n hr2
              obtain ⟨l, rfl, rfl, hl⟩ := read_b hr3
              cases hf
              exact ⟨rfl, (okP_some hp).2 ⟨by simp; omega, by simp; omega, hl, Or.inr rfl⟩, by simp [lineP, lettersR, joinL, pieceR]⟩
        · cases h'
end Go.Proofs.YthcbidbhkikhmaaDoor
