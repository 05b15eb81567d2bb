/- Numbers of digits: the reference's number, the program's reads. -/
import Derived.Test.YthcbidbhkikhmaaDoorRef31
namespace Go.Proofs.YthcbidbhkikhmaaDoor
open Go Go.RowKit
def isDig (c : UInt8) : Bool := decide (48 ≤ c.toNat) && decide (c.toNat ≤ 57)
def valN (s : List UInt8) : Nat := s.foldl (fun n c => 10 * n + (c.toNat - 48)) 0
theorem valN_app (s : List UInt8) (c : UInt8) : valN (s ++ [c]) = 10 * valN s + (c.toNat - 48) := by simp [valN]
theorem valN_succ (s : List UInt8) (j : Nat) (h : j < s.length) : valN (s.take (j + 1)) = 10 * valN (s.take j) + (s[j].toNat - 48) := by
  rw [List.take_succ_eq_append_getElem h, valN_app]
theorem all_succ (s : List UInt8) (j : Nat) (h : j < s.length) : (s.take (j + 1)).all isDig = ((s.take j).all isDig && isDig s[j]) := by
  rw [List.take_succ_eq_append_getElem h, List.all_append]; simp
theorem valN_lt' : ∀ (s : List UInt8) (n k : Nat), n < 10 ^ k → s.all isDig = true → s.foldl (fun n c => 10 * n + (c.toNat - 48)) n < 10 ^ (k + s.length)
  | [], n, k, h, _ => h
  | c :: s, n, k, h, hd => by
    simp only [List.all_cons, Bool.and_eq_true, isDig, decide_eq_true_eq] at hd
    have := valN_lt' s (10 * n + (c.toNat - 48)) (k + 1) (by rw [Nat.pow_succ]; omega) hd.2
    rw [List.foldl_cons, List.length_cons, show k + (s.length + 1) = k + 1 + s.length by omega]
    exact this
theorem valN_lt (s : List UInt8) (h : s.all isDig = true) : valN s < 10 ^ s.length := by
  have := valN_lt' s 0 0 (by decide) h
  rwa [Nat.zero_add] at this
def numR (s : List UInt8) : Nat × Bool :=
  if s.length = 0 ∨ 10 < s.length ∨ (1 < s.length ∧ s.getD 0 0 = 48) then (0, false) else if s.all isDig = true then (valN s, true) else (0, false)
set_option maxRecDepth 100000 in
set_option maxHeartbeats 2000000 in
theorem ref31_number (s : List UInt8) (w : World) (hsz : s.length ≤ 10000) : Calls Tryd.prog 39 #[.string (bs s)] w fun e w' => e = .returned (.tuple #[.int .i64 ((numR s).1 : Nat), .bool (numR s).2]) ∧ w = w' := by
  obtain ⟨x, y, hxy⟩ : ∃ x y, numR s = (x, y) := ⟨_, _, rfl⟩
  rw [hxy]
  unfold numR at hxy
  by_cases h0 : s = []
  · subst h0
    rw [if_pos (Or.inl List.length_nil)] at hxy
    cases hxy
    go_enter Tryd.func39, Tryd.ntmps39
    go_wp2_with fail
    go_ret2
    exact ⟨rfl, rfl⟩
  have q0 : (s == []) = false := beq_eq_false_iff_ne.2 h0
  have hpos : 0 < s.length := List.length_pos_iff.2 h0
  have hposi : 0 < (s.length : Int) := by omega
  have q0' : ((s.length : Int) == 0) = false := by rw [beq_eq_false_iff_ne]; omega
  by_cases h1 : 10 < s.length
  · rw [if_pos (Or.inr (Or.inl h1))] at hxy
    cases hxy
    have h1' : 10 < (s.length : Int) := by omega
    clear h0
    go_enter Tryd.func39, Tryd.ntmps39
    go_wp2_with fail
    go_ret2
    exact ⟨rfl, rfl⟩
  have h1' : ¬ 10 < (s.length : Int) := by omega
  have hg : s.getD 0 0 = s[0] := by simp [List.getD, hpos]
  rw [hg] at hxy
  by_cases h2 : 1 < s.length ∧ s[0] = 48
  · rw [if_pos (Or.inr (Or.inr h2))] at hxy
    cases hxy
    have h2' : 1 < (s.length : Int) := by omega
    have q2 : ((s[0].toNat : Int) == 48) = true := by rw [h2.2]; rfl
    clear h0 hg h2
    go_enter Tryd.func39, Tryd.ntmps39
    go_wp2_with fail
    go_ret2
    exact ⟨rfl, rfl⟩
  rw [if_neg (fun h => h.elim (fun h => h0 (List.eq_nil_of_length_eq_zero h)) (fun h => h.elim h1 h2))] at hxy
  clear h0 hg
  have hlen : s.length ≤ 10 := by omega
  have Hxy := Lib.hid hxy
  clear hxy h1
  by_cases h3 : 1 < s.length
  · have h3' : 1 < (s.length : Int) := by omega
    have q2 : ((s[0].toNat : Int) == 48) = false := by
      rw [beq_eq_false_iff_ne]; intro h; exact h2 ⟨h3, UInt8.toNat_inj.1 (by simpa using (by omega : s[0].toNat = 48))⟩
    clear h2
    go_enter Tryd.func39, Tryd.ntmps39
    go_wp2_with fail
    go_loopg [4, 5] s.length (fun g m i => fun wr => ∃ (j : Nat), j + g = s.length ∧ i = .int .i64 (j : Int) ∧ m = .int .i64 (valN (s.take j) : Int) ∧ Hid ((s.take j).all isDig = true) ∧ w = wr)
    case atStart => exact ⟨0, by omega, rfl, rfl, Lib.hid rfl, rfl⟩
    case round =>
      obtain ⟨j, hj, rfl, rfl, Hd, rfl⟩ := hrel
      cases gk with
      | zero =>
        obtain rfl : j = s.length := by omega
        have hlt : ¬ ((s.length : Int) < (s.length : Int)) := by omega
        have hr : (x, y) = (valN s, true) := by
          have h := Hd.out
          rw [List.take_length] at h
          rw [← Hxy.out, if_pos h]
        rw [List.take_length]
        cases hr
        go_wp2_with fail
        go_ret2
        exact ⟨rfl, rfl⟩
      | succ g =>
        have hlt : ((j : Int) < (s.length : Int)) := by omega
        have hjl : j < s.length := by omega
        have hv := valN_lt (s.take j) Hd.out
        rw [List.length_take, Nat.min_eq_left (by omega)] at hv
        have hv2 : valN (s.take j) < 10 ^ 10 := Nat.lt_of_lt_of_le hv (Nat.pow_le_pow_right (by decide) (by omega))
        have Hs := Lib.hid (valN_succ s j hjl)
        have Ha := Lib.hid (all_succ s j hjl)
        clear hv
        generalize valN (s.take j) = v at hv2 Hs ⊢
        obtain ⟨c, hc⟩ : ∃ c : Nat, c = s[j].toNat := ⟨_, rfl⟩
        by_cases hlo : 48 ≤ c
        · by_cases hhi : c ≤ 57
          · have q1 : ¬ (s[j].toNat : Int) < 48 := by omega
            have q2 : ¬ 57 < (s[j].toNat : Int) := by omega
            have hdig : isDig s[j] = true := by simp only [isDig, Bool.and_eq_true, decide_eq_true_eq]; omega
            have Hdig := Lib.hid hdig
            have Hc := Lib.hid hc
            clear hdig
            go_wp2_with fail
            go_roundg g
            case measure => omega
            case rel =>
              refine ⟨j + 1, by omega, rfl, ?_, Lib.hid (by rw [Ha.out, Hd.out, Hdig.out]; rfl), rfl⟩
              rw [Hs.out]
              congr 1
              omega
          · have q1 : ¬ (s[j].toNat : Int) < 48 := by omega
            have q2 : 57 < (s[j].toNat : Int) := by omega
            have hdig : isDig s[j] = false := by simp only [isDig, Bool.and_eq_false_iff, decide_eq_false_iff_not]; omega
            have hr : (x, y) = (0, false) := by rw [← Hxy.out, if_neg (by rw [List.all_eq_true]; intro h; have := h _ (List.getElem_mem hjl); rw [hdig] at this; cases this)]
            cases hr
            clear hdig
            go_wp2_with fail
            go_ret2
            exact ⟨rfl, rfl⟩
        · have q1 : (s[j].toNat : Int) < 48 := by omega
          have hdig : isDig s[j] = false := by simp only [isDig, Bool.and_eq_false_iff, decide_eq_false_iff_not]; omega
          have hr : (x, y) = (0, false) := by rw [← Hxy.out, if_neg (by rw [List.all_eq_true]; intro h; have := h _ (List.getElem_mem hjl); rw [hdig] at this; cases this)]
          cases hr
          clear hdig
          go_wp2_with fail
          go_ret2
          exact ⟨rfl, rfl⟩
  · have h3' : ¬ 1 < (s.length : Int) := by omega
    clear h2
    go_enter Tryd.func39, Tryd.ntmps39
    go_wp2_with fail
    go_loopg [4, 5] s.length (fun g m i => fun wr => ∃ (j : Nat), j + g = s.length ∧ i = .int .i64 (j : Int) ∧ m = .int .i64 (valN (s.take j) : Int) ∧ Hid ((s.take j).all isDig = true) ∧ w = wr)
    case atStart => exact ⟨0, by omega, rfl, rfl, Lib.hid rfl, rfl⟩
    case round =>
      obtain ⟨j, hj, rfl, rfl, Hd, rfl⟩ := hrel
      cases gk with
      | zero =>
        obtain rfl : j = s.length := by omega
        have hlt : ¬ ((s.length : Int) < (s.length : Int)) := by omega
        have hr : (x, y) = (valN s, true) := by
          have h := Hd.out
          rw [List.take_length] at h
          rw [← Hxy.out, if_pos h]
        rw [List.take_length]
        cases hr
        go_wp2_with fail
        go_ret2
        exact ⟨rfl, rfl⟩
      | succ g =>
        have hlt : ((j : Int) < (s.length : Int)) := by omega
        have hjl : j < s.length := by omega
        have hv := valN_lt (s.take j) Hd.out
        rw [List.length_take, Nat.min_eq_left (by omega)] at hv
        have hv2 : valN (s.take j) < 10 ^ 10 := Nat.lt_of_lt_of_le hv (Nat.pow_le_pow_right (by decide) (by omega))
        have Hs := Lib.hid (valN_succ s j hjl)
        have Ha := Lib.hid (all_succ s j hjl)
        clear hv
        generalize valN (s.take j) = v at hv2 Hs ⊢
        obtain ⟨c, hc⟩ : ∃ c : Nat, c = s[j].toNat := ⟨_, rfl⟩
        by_cases hlo : 48 ≤ c
        · by_cases hhi : c ≤ 57
          · have q1 : ¬ (s[j].toNat : Int) < 48 := by omega
            have q2 : ¬ 57 < (s[j].toNat : Int) := by omega
            have hdig : isDig s[j] = true := by simp only [isDig, Bool.and_eq_true, decide_eq_true_eq]; omega
            have Hdig := Lib.hid hdig
            have Hc := Lib.hid hc
            clear hdig
            go_wp2_with fail
            go_roundg g
            case measure => omega
            case rel =>
              refine ⟨j + 1, by omega, rfl, ?_, Lib.hid (by rw [Ha.out, Hd.out, Hdig.out]; rfl), rfl⟩
              rw [Hs.out]
              congr 1
              omega
          · have q1 : ¬ (s[j].toNat : Int) < 48 := by omega
            have q2 : 57 < (s[j].toNat : Int) := by omega
            have hdig : isDig s[j] = false := by simp only [isDig, Bool.and_eq_false_iff, decide_eq_false_iff_not]; omega
            have hr : (x, y) = (0, false) := by rw [← Hxy.out, if_neg (by rw [List.all_eq_true]; intro h; have := h _ (List.getElem_mem hjl); rw [hdig] at this; cases this)]
            cases hr
            clear hdig
            go_wp2_with fail
            go_ret2
            exact ⟨rfl, rfl⟩
        · have q1 : (s[j].toNat : Int) < 48 := by omega
          have hdig : isDig s[j] = false := by simp only [isDig, Bool.and_eq_false_iff, decide_eq_false_iff_not]; omega
          have hr : (x, y) = (0, false) := by rw [← Hxy.out, if_neg (by rw [List.all_eq_true]; intro h; have := h _ (List.getElem_mem hjl); rw [hdig] at this; cases this)]
          cases hr
          clear hdig
          go_wp2_with fail
          go_ret2
          exact ⟨rfl, rfl⟩
set_option maxRecDepth 100000 in
set_option maxHeartbeats 2000000 in
theorem lines_reads (s : List UInt8) (w : World) (hsz : s.length ≤ 10000) : Calls Tryd.prog 48 #[.string (bs s)] w fun e w' => e = .returned (.tuple #[.int .i64 ((numR s).1 : Nat), .bool (numR s).2]) ∧ w = w' := by
  obtain ⟨x, y, hxy⟩ : ∃ x y, numR s = (x, y) := ⟨_, _, rfl⟩
  rw [hxy]
  unfold numR at hxy
  by_cases h0 : s = []
  · subst h0
    rw [if_pos (Or.inl List.length_nil)] at hxy
    cases hxy
    go_enter Tryd.func48, Tryd.ntmps48
    go_wp2_with fail
    go_ret2
    exact ⟨rfl, rfl⟩
  have q0 : (s == []) = false := beq_eq_false_iff_ne.2 h0
  have hpos : 0 < s.length := List.length_pos_iff.2 h0
  have hposi : 0 < (s.length : Int) := by omega
  have q0' : ((s.length : Int) == 0) = false := by rw [beq_eq_false_iff_ne]; omega
  by_cases h1 : 10 < s.length
  · rw [if_pos (Or.inr (Or.inl h1))] at hxy
    cases hxy
    have h1' : 10 < (s.length : Int) := by omega
    clear h0
    go_enter Tryd.func48, Tryd.ntmps48
    go_wp2_with fail
    go_ret2
    exact ⟨rfl, rfl⟩
  have h1' : ¬ 10 < (s.length : Int) := by omega
  have hg : s.getD 0 0 = s[0] := by simp [List.getD, hpos]
  rw [hg] at hxy
  by_cases h2 : 1 < s.length ∧ s[0] = 48
  · rw [if_pos (Or.inr (Or.inr h2))] at hxy
    cases hxy
    have h2' : 1 < (s.length : Int) := by omega
    have q2 : ((s[0].toNat : Int) == 48) = true := by rw [h2.2]; rfl
    clear h0 hg h2
    go_enter Tryd.func48, Tryd.ntmps48
    go_wp2_with fail
    go_ret2
    exact ⟨rfl, rfl⟩
  rw [if_neg (fun h => h.elim (fun h => h0 (List.eq_nil_of_length_eq_zero h)) (fun h => h.elim h1 h2))] at hxy
  clear h0 hg
  have hlen : s.length ≤ 10 := by omega
  have Hxy := Lib.hid hxy
  clear hxy h1
  by_cases h3 : 1 < s.length
  · have h3' : 1 < (s.length : Int) := by omega
    have q2 : ((s[0].toNat : Int) == 48) = false := by
      rw [beq_eq_false_iff_ne]; intro h; exact h2 ⟨h3, UInt8.toNat_inj.1 (by simpa using (by omega : s[0].toNat = 48))⟩
    clear h2
    go_enter Tryd.func48, Tryd.ntmps48
    go_wp2_with fail
    go_loopg [2, 24] s.length (fun g m i => fun wr => ∃ (j : Nat), j + g = s.length ∧ i = .int .i64 (j : Int) ∧ m = .int .i64 (valN (s.take j) : Int) ∧ Hid ((s.take j).all isDig = true) ∧ w = wr)
    case atStart => exact ⟨0, by omega, rfl, rfl, Lib.hid rfl, rfl⟩
    case round =>
      obtain ⟨j, hj, rfl, rfl, Hd, rfl⟩ := hrel
      cases gk with
      | zero =>
        obtain rfl : j = s.length := by omega
        have hlt : ¬ ((s.length : Int) < (s.length : Int)) := by omega
        have hr : (x, y) = (valN s, true) := by
          have h := Hd.out
          rw [List.take_length] at h
          rw [← Hxy.out, if_pos h]
        rw [List.take_length]
        cases hr
        go_wp2_with fail
        go_ret2
        exact ⟨rfl, rfl⟩
      | succ g =>
        have hlt : ((j : Int) < (s.length : Int)) := by omega
        have hjl : j < s.length := by omega
        have hv := valN_lt (s.take j) Hd.out
        rw [List.length_take, Nat.min_eq_left (by omega)] at hv
        have hv2 : valN (s.take j) < 10 ^ 10 := Nat.lt_of_lt_of_le hv (Nat.pow_le_pow_right (by decide) (by omega))
        have Hs := Lib.hid (valN_succ s j hjl)
        have Ha := Lib.hid (all_succ s j hjl)
        clear hv
        generalize valN (s.take j) = v at hv2 Hs ⊢
        obtain ⟨c, hc⟩ : ∃ c : Nat, c = s[j].toNat := ⟨_, rfl⟩
        by_cases hlo : 48 ≤ c
        · by_cases hhi : c ≤ 57
          · have q1 : ¬ (s[j].toNat : Int) < 48 := by omega
            have q2 : ¬ 57 < (s[j].toNat : Int) := by omega
            have hdig : isDig s[j] = true := by simp only [isDig, Bool.and_eq_true, decide_eq_true_eq]; omega
            have Hdig := Lib.hid hdig
            have Hc := Lib.hid hc
            clear hdig
            go_wp2_with fail
            go_roundg g
            case measure => omega
            case rel =>
              refine ⟨j + 1, by omega, rfl, ?_, Lib.hid (by rw [Ha.out, Hd.out, Hdig.out]; rfl), rfl⟩
              rw [Hs.out]
              congr 1
              omega
          · have q1 : ¬ (s[j].toNat : Int) < 48 := by omega
            have q2 : 57 < (s[j].toNat : Int) := by omega
            have hdig : isDig s[j] = false := by simp only [isDig, Bool.and_eq_false_iff, decide_eq_false_iff_not]; omega
            have hr : (x, y) = (0, false) := by rw [← Hxy.out, if_neg (by rw [List.all_eq_true]; intro h; have := h _ (List.getElem_mem hjl); rw [hdig] at this; cases this)]
            cases hr
            clear hdig
            go_wp2_with fail
            go_ret2
            exact ⟨rfl, rfl⟩
        · have q1 : (s[j].toNat : Int) < 48 := by omega
          have hdig : isDig s[j] = false := by simp only [isDig, Bool.and_eq_false_iff, decide_eq_false_iff_not]; omega
          have hr : (x, y) = (0, false) := by rw [← Hxy.out, if_neg (by rw [List.all_eq_true]; intro h; have := h _ (List.getElem_mem hjl); rw [hdig] at this; cases this)]
          cases hr
          clear hdig
          go_wp2_with fail
          go_ret2
          exact ⟨rfl, rfl⟩
  · have h3' : ¬ 1 < (s.length : Int) := by omega
    clear h2
    go_enter Tryd.func48, Tryd.ntmps48
    go_wp2_with fail
    go_loopg [2, 24] s.length (fun g m i => fun wr => ∃ (j : Nat), j + g = s.length ∧ i = .int .i64 (j : Int) ∧ m = .int .i64 (valN (s.take j) : Int) ∧ Hid ((s.take j).all isDig = true) ∧ w = wr)
    case atStart => exact ⟨0, by omega, rfl, rfl, Lib.hid rfl, rfl⟩
    case round =>
      obtain ⟨j, hj, rfl, rfl, Hd, rfl⟩ := hrel
      cases gk with
      | zero =>
        obtain rfl : j = s.length := by omega
        have hlt : ¬ ((s.length : Int) < (s.length : Int)) := by omega
        have hr : (x, y) = (valN s, true) := by
          have h := Hd.out
          rw [List.take_length] at h
          rw [← Hxy.out, if_pos h]
        rw [List.take_length]
        cases hr
        go_wp2_with fail
        go_ret2
        exact ⟨rfl, rfl⟩
      | succ g =>
        have hlt : ((j : Int) < (s.length : Int)) := by omega
        have hjl : j < s.length := by omega
        have hv := valN_lt (s.take j) Hd.out
        rw [List.length_take, Nat.min_eq_left (by omega)] at hv
        have hv2 : valN (s.take j) < 10 ^ 10 := Nat.lt_of_lt_of_le hv (Nat.pow_le_pow_right (by decide) (by omega))
        have Hs := Lib.hid (valN_succ s j hjl)
        have Ha := Lib.hid (all_succ s j hjl)
        clear hv
        generalize valN (s.take j) = v at hv2 Hs ⊢
        obtain ⟨c, hc⟩ : ∃ c : Nat, c = s[j].toNat := ⟨_, rfl⟩
        by_cases hlo : 48 ≤ c
        · by_cases hhi : c ≤ 57
          · have q1 : ¬ (s[j].toNat : Int) < 48 := by omega
            have q2 : ¬ 57 < (s[j].toNat : Int) := by omega
            have hdig : isDig s[j] = true := by simp only [isDig, Bool.and_eq_true, decide_eq_true_eq]; omega
            have Hdig := Lib.hid hdig
            have Hc := Lib.hid hc
            clear hdig
            go_wp2_with fail
            go_roundg g
            case measure => omega
            case rel =>
              refine ⟨j + 1, by omega, rfl, ?_, Lib.hid (by rw [Ha.out, Hd.out, Hdig.out]; rfl), rfl⟩
              rw [Hs.out]
              congr 1
              omega
          · have q1 : ¬ (s[j].toNat : Int) < 48 := by omega
            have q2 : 57 < (s[j].toNat : Int) := by omega
            have hdig : isDig s[j] = false := by simp only [isDig, Bool.and_eq_false_iff, decide_eq_false_iff_not]; omega
            have hr : (x, y) = (0, false) := by rw [← Hxy.out, if_neg (by rw [List.all_eq_true]; intro h; have := h _ (List.getElem_mem hjl); rw [hdig] at this; cases this)]
            cases hr
            clear hdig
            go_wp2_with fail
            go_ret2
            exact ⟨rfl, rfl⟩
        · have q1 : (s[j].toNat : Int) < 48 := by omega
          have hdig : isDig s[j] = false := by simp only [isDig, Bool.and_eq_false_iff, decide_eq_false_iff_not]; omega
          have hr : (x, y) = (0, false) := by rw [← Hxy.out, if_neg (by rw [List.all_eq_true]; intro h; have := h _ (List.getElem_mem hjl); rw [hdig] at this; cases this)]
          cases hr
          clear hdig
          go_wp2_with fail
          go_ret2
          exact ⟨rfl, rfl⟩
end Go.Proofs.YthcbidbhkikhmaaDoor
