/- The reference of layer 31: has, in, half, part, number, digits. -/
import Derived.Test.YthcbidbhkikhmaaDoorKit
namespace Go.Proofs.YthcbidbhkikhmaaDoor
open Go Go.RowKit
def wOpen : List UInt8 := [111,112,101,110]
def wFeed : List UInt8 := [102,101,101,100]
def wEnd : List UInt8 := [101,110,100]
def wDrain : List UInt8 := [100,114,97,105,110]
def wClose : List UInt8 := [99,108,111,115,101]
def wEvict : List UInt8 := [101,118,105,99,116]
def wStatus : List UInt8 := [115,116,97,116,117,115]
def wPick : List UInt8 := [112,105,99,107]
def wPress : List UInt8 := [112,114,101,115,115]
def hasR (s : List UInt8) : List UInt8 × Bool :=
  if s = wOpen then ([], true) else if s = wFeed then ([105, 98], true) else if s = wEnd then ([105], true) else if s = wDrain then ([105], true) else if s = wClose then ([105], true)
  else if s = wEvict then ([105], true) else if s = wStatus then ([105], true) else if s = wPick then ([105, 110], true) else if s = wPress then ([110], true) else ([], false)
set_option maxHeartbeats 4000000 in
theorem ref31_has (s : List UInt8) (w : World) : Calls Tryd.prog 31 #[.string (bs s)] w fun e w' => e = .returned (.tuple #[.string (bs (hasR s).1), .bool (hasR s).2]) ∧ w = w' := by
  by_cases h0 : s = wOpen
  · have q0 : (s == [111, 112, 101, 110]) = true := beq_iff_eq.2 h0
    have hr : hasR s = hasR wOpen := by rw [h0]
    rw [hr]
    clear hr h0
    go_enter Tryd.func31, Tryd.ntmps31
    go_wp2_with fail
    go_ret2
    exact ⟨rfl, rfl⟩
  have q0 : (s == [111, 112, 101, 110]) = false := beq_eq_false_iff_ne.2 h0
  by_cases h1 : s = wFeed
  · have q1 : (s == [102, 101, 101, 100]) = true := beq_iff_eq.2 h1
    have hr : hasR s = hasR wFeed := by rw [h1]
    rw [hr]
    clear hr h1
    go_enter Tryd.func31, Tryd.ntmps31
    go_wp2_with fail
    go_ret2
    exact ⟨rfl, rfl⟩
  have q1 : (s == [102, 101, 101, 100]) = false := beq_eq_false_iff_ne.2 h1
  by_cases h2 : s = wEnd
  · have q2 : (s == [101, 110, 100]) = true := beq_iff_eq.2 h2
    have hr : hasR s = hasR wEnd := by rw [h2]
    rw [hr]
    clear hr h2
    go_enter Tryd.func31, Tryd.ntmps31
    go_wp2_with fail
    go_ret2
    exact ⟨rfl, rfl⟩
  have q2 : (s == [101, 110, 100]) = false := beq_eq_false_iff_ne.2 h2
  by_cases h3 : s = wDrain
  · have q3 : (s == [100, 114, 97, 105, 110]) = true := beq_iff_eq.2 h3
    have hr : hasR s = hasR wDrain := by rw [h3]
    rw [hr]
    clear hr h3
    go_enter Tryd.func31, Tryd.ntmps31
    go_wp2_with fail
    go_ret2
    exact ⟨rfl, rfl⟩
  have q3 : (s == [100, 114, 97, 105, 110]) = false := beq_eq_false_iff_ne.2 h3
  by_cases h4 : s = wClose
  · have q4 : (s == [99, 108, 111, 115, 101]) = true := beq_iff_eq.2 h4
    have hr : hasR s = hasR wClose := by rw [h4]
    rw [hr]
    clear hr h4
    go_enter Tryd.func31, Tryd.ntmps31
    go_wp2_with fail
    go_ret2
    exact ⟨rfl, rfl⟩
  have q4 : (s == [99, 108, 111, 115, 101]) = false := beq_eq_false_iff_ne.2 h4
  by_cases h5 : s = wEvict
  · have q5 : (s == [101, 118, 105, 99, 116]) = true := beq_iff_eq.2 h5
    have hr : hasR s = hasR wEvict := by rw [h5]
    rw [hr]
    clear hr h5
    go_enter Tryd.func31, Tryd.ntmps31
    go_wp2_with fail
    go_ret2
    exact ⟨rfl, rfl⟩
  have q5 : (s == [101, 118, 105, 99, 116]) = false := beq_eq_false_iff_ne.2 h5
  by_cases h6 : s = wStatus
  · have q6 : (s == [115, 116, 97, 116, 117, 115]) = true := beq_iff_eq.2 h6
    have hr : hasR s = hasR wStatus := by rw [h6]
    rw [hr]
    clear hr h6
    go_enter Tryd.func31, Tryd.ntmps31
    go_wp2_with fail
    go_ret2
    exact ⟨rfl, rfl⟩
  have q6 : (s == [115, 116, 97, 116, 117, 115]) = false := beq_eq_false_iff_ne.2 h6
  by_cases h7 : s = wPick
  · have q7 : (s == [112, 105, 99, 107]) = true := beq_iff_eq.2 h7
    have hr : hasR s = hasR wPick := by rw [h7]
    rw [hr]
    clear hr h7
    go_enter Tryd.func31, Tryd.ntmps31
    go_wp2_with fail
    go_ret2
    exact ⟨rfl, rfl⟩
  have q7 : (s == [112, 105, 99, 107]) = false := beq_eq_false_iff_ne.2 h7
  by_cases h8 : s = wPress
  · have q8 : (s == [112, 114, 101, 115, 115]) = true := beq_iff_eq.2 h8
    have hr : hasR s = hasR wPress := by rw [h8]
    rw [hr]
    clear hr h8
    go_enter Tryd.func31, Tryd.ntmps31
    go_wp2_with fail
    go_ret2
    exact ⟨rfl, rfl⟩
  have q8 : (s == [112, 114, 101, 115, 115]) = false := beq_eq_false_iff_ne.2 h8
  have hr : hasR s = ([], false) := by simp only [hasR, if_neg h0, if_neg h1, if_neg h2, if_neg h3, if_neg h4, if_neg h5, if_neg h6, if_neg h7, if_neg h8]
  rw [hr]
  clear hr h0 h1 h2 h3 h4 h5 h6 h7 h8
  go_enter Tryd.func31, Tryd.ntmps31
  go_wp2_with fail
  go_ret2
  exact ⟨rfl, rfl⟩
def inR (s : List UInt8) (c : UInt8) : Bool := s.any (fun b => b == c)
set_option maxHeartbeats 1000000 in
theorem ref31_in (s : List UInt8) (c : UInt8) (w : World) (hsz : s.length ≤ 10000) : Calls Tryd.prog 35 #[.string (bs s), .int .u8 c.toNat] w fun e w' => e = .returned (.bool (inR s c)) ∧ w = w' := by
  go_enter Tryd.func35, Tryd.ntmps35
  go_wp2_with fail
  go_loopg [5] s.length (fun g i => fun wr => ∃ (j : Nat), j + g = s.length ∧ i = .int .i64 (j : Int) ∧ Hid (inR (s.take j) c = false) ∧ w = wr)
  case atStart => exact ⟨0, by omega, rfl, Lib.hid rfl, rfl⟩
  case round =>
    obtain ⟨j, hj, rfl, Hb, rfl⟩ := hrel
    cases gk with
    | zero =>
      obtain rfl : j = s.length := by omega
      have hlt : ¬ ((s.length : Int) < (s.length : Int)) := by omega
      go_wp2_with fail
      go_ret
      have hr : inR s c = false := by have := Hb.out; rwa [List.take_length] at this
      rw [hr]
      exact ⟨rfl, rfl⟩
    | succ g =>
      have hlt : ((j : Int) < (s.length : Int)) := by omega
      have hjl : j < s.length := by omega
      by_cases hc : s[j] = c
      · have q : ((s[j].toNat : Int) == (c.toNat : Int)) = true := by rw [hc]; exact beq_self_eq_true _
        have Hc := Lib.hid hc; clear hc
        go_wp2_with fail
        go_ret
        have hr : inR s c = true := List.any_eq_true.2 ⟨_, List.getElem_mem hjl, by rw [Hc.out]; exact beq_self_eq_true _⟩
        rw [hr]
        exact ⟨rfl, rfl⟩
      · have q : ((s[j].toNat : Int) == (c.toNat : Int)) = false := by
          rw [beq_eq_false_iff_ne]; intro h; exact hc (UInt8.toNat_inj.1 (by omega))
        have Hc := Lib.hid hc; clear hc
        go_wp2_with fail
        go_roundg g
        case measure => omega
        case rel =>
          refine ⟨j + 1, by omega, rfl, Lib.hid ?_, rfl⟩
          have h1 := Hb.out
          unfold inR at h1 ⊢
          rw [List.take_succ_eq_append_getElem hjl, List.any_append, h1]
          simp [Hc.out]
def halfR (c : UInt8) : Nat := if 48 ≤ c.toNat ∧ c.toNat ≤ 57 then c.toNat - 48 else if 97 ≤ c.toNat ∧ c.toNat ≤ 102 then c.toNat - 97 + 10 else 16
theorem ref31_half (c : UInt8) (w : World) : Calls Tryd.prog 51 #[.int .u8 c.toNat] w fun e w' => e = .returned (.int .i64 (halfR c)) ∧ w = w' := by
  have hc : c.toNat < 256 := UInt8.toNat_lt _
  obtain ⟨r, hr⟩ : ∃ r, r = halfR c := ⟨_, rfl⟩
  rw [← hr]
  unfold halfR at hr
  generalize c.toNat = n at hr hc
  by_cases h1 : 48 ≤ n
  · by_cases h2 : n ≤ 57
    · rw [if_pos ⟨h1, h2⟩] at hr
      have h1' : (48 : Int) ≤ (n : Int) := by omega
      have h2' : (n : Int) ≤ 57 := by omega
      have hz : (n : Int) - 48 = (r : Int) := by omega
      clear hr
      go_enter Tryd.func51, Tryd.ntmps51
      go_wp2_with fail
      go_ret
      exact ⟨rfl, rfl⟩
    · rw [if_neg (by omega)] at hr
      have h1' : (48 : Int) ≤ (n : Int) := by omega
      have h2' : ¬ (n : Int) ≤ 57 := by omega
      by_cases h3 : 97 ≤ n ∧ n ≤ 102
      · rw [if_pos h3] at hr
        have h3' : (97 : Int) ≤ (n : Int) := by omega
        have h4' : (n : Int) ≤ 102 := by omega
        have hz : (n : Int) - 97 + 10 = (r : Int) := by omega
        clear hr
        go_enter Tryd.func51, Tryd.ntmps51
        go_wp2_with fail
        go_ret
        exact ⟨rfl, rfl⟩
      · rw [if_neg h3] at hr
        subst hr
        by_cases h5 : 97 ≤ n
        · have h3' : (97 : Int) ≤ (n : Int) := by omega
          have h4' : ¬ (n : Int) ≤ 102 := by omega
          go_enter Tryd.func51, Tryd.ntmps51
          go_wp2_with fail
          go_ret
          exact ⟨rfl, rfl⟩
        · have h3' : ¬ (97 : Int) ≤ (n : Int) := by omega
          go_enter Tryd.func51, Tryd.ntmps51
          go_wp2_with fail
          go_ret
          exact ⟨rfl, rfl⟩
  · rw [if_neg (by omega), if_neg (by omega)] at hr
    subst hr
    have h1' : ¬ (48 : Int) ≤ (n : Int) := by omega
    have h3' : ¬ (97 : Int) ≤ (n : Int) := by omega
    go_enter Tryd.func51, Tryd.ntmps51
    go_wp2_with fail
    go_ret
    exact ⟨rfl, rfl⟩
/-- how far it is to the next space -/
def partR (s : List UInt8) : Nat := (s.takeWhile (fun c => c != 32)).length
theorem partR_le (s : List UInt8) : partR s ≤ s.length := (List.takeWhile_sublist _).length_le
set_option maxHeartbeats 1000000 in
theorem ref31_part (s : List UInt8) (k : Nat) (w : World) (hsz : s.length ≤ 10000) (hk : k ≤ s.length) : Calls Tryd.prog 38 #[.string (bs s), .int .i64 (k : Int)] w fun e w' => e = .returned (.int .i64 ((k + partR (s.drop k) : Nat) : Int)) ∧ w = w' := by
  obtain ⟨r, hr⟩ : ∃ r, r = k + partR (s.drop k) := ⟨_, rfl⟩
  rw [← hr]
  have Hr := Lib.hid hr; clear hr
  go_enter Tryd.func38, Tryd.ntmps38
  go_wp2_with fail
  go_loopg [1] (s.length - k) (fun g i => fun wr => ∃ (j : Nat), j + g = s.length ∧ i = .int .i64 (j : Int) ∧ Hid (r = j + partR (s.drop j)) ∧ w = wr)
  case atStart => exact ⟨k, by omega, rfl, Hr, rfl⟩
  case round =>
    obtain ⟨j, hj, rfl, Hb, rfl⟩ := hrel
    cases gk with
    | zero =>
      obtain rfl : j = s.length := by omega
      have hlt : ¬ ((s.length : Int) < (s.length : Int)) := by omega
      have hr : r = s.length := by rw [Hb.out, List.drop_length]; simp [partR]
      have Hs := Lib.hid hr
      clear Hb Hr hr
      go_wp2_with fail
      go_ret
      rw [Hs.out]
      exact ⟨rfl, rfl⟩
    | succ g =>
      have hlt : ((j : Int) < (s.length : Int)) := by omega
      have hjl : j < s.length := by omega
      by_cases hc : s[j] = 32
      · have q : ((s[j].toNat : Int) != 32) = false := by rw [hc]; rfl
        have hr : r = j := by rw [Hb.out, List.drop_eq_getElem_cons hjl, hc]; simp [partR]
        have Hs := Lib.hid hr
        clear hc Hb Hr hr
        go_wp2_with fail
        go_ret
        rw [Hs.out]
        exact ⟨rfl, rfl⟩
      · have q : ((s[j].toNat : Int) != 32) = true := by
          rw [bne_iff_ne]; intro h; exact hc (UInt8.toNat_inj.1 (by simpa using (by omega : s[j].toNat = 32)))
        have hr : r = j + 1 + partR (s.drop (j + 1)) := by
          rw [Hb.out, List.drop_eq_getElem_cons hjl]
          have : (s[j] != 32) = true := by rw [bne_iff_ne]; exact hc
          simp only [partR, List.takeWhile_cons, this, if_true, List.length_cons]
          omega
        have Hs := Lib.hid hr
        clear hc Hb Hr hr
        go_wp2_with fail
        go_roundg g
        case measure => omega
        case rel => exact ⟨j + 1, by omega, rfl, Hs, rfl⟩
def digR (n : Nat) : List UInt8 := if 9 < n then digR (n / 10) ++ digR (n % 10) else [UInt8.ofNat (48 + n)]
termination_by n
decreasing_by all_goals omega
theorem digR_len (n k : Nat) (h : n < 10 ^ (k + 1)) : (digR n).length ≤ k + 1 := by
  induction k generalizing n with
  | zero => rw [digR, if_neg (by omega)]; simp
  | succ k ih =>
    by_cases h9 : 9 < n
    · rw [digR, if_pos h9, List.length_append]
      have h1 := ih (n / 10) (by rw [Nat.pow_succ] at h; omega)
      have h2 : (digR (n % 10)).length = 1 := by rw [digR, if_neg (by omega)]; rfl
      omega
    · rw [digR, if_neg h9]; simp
theorem u8_lt (z : Nat) (h : z < 256) : (UInt8.ofNat z).toNat = z := by
  rw [UInt8.toNat_ofNat']; exact Nat.mod_eq_of_lt h
set_option maxHeartbeats 1000000 in
theorem ref31_digits (n : Nat) (hn : n ≤ 9999999999) (w : World) : Calls Tryd.prog 32 #[.int .i64 (n : Int)] w fun e w' => e = .returned (.string (bs (digR n))) ∧ Below w.heap.size w w' := by
  induction n using Nat.strongRecOn generalizing w with
  | ind n ih =>
    by_cases h9 : 9 < n
    · have hlt : (9 : Int) < (n : Int) := by omega
      have h1 := Lib.hid (fun W => ih (n / 10) (by omega) (by omega) W)
      have h2 := Lib.hid (fun W => ih (n % 10) (by omega) (by omega) W)
      have hr : digR n = digR (n / 10) ++ digR (n % 10) := by rw [digR, if_pos h9]
      rw [hr]
      clear ih hr
      have hl1 : (digR (n / 10)).length ≤ 10 := digR_len _ 9 (by omega)
      have hl2 : (digR (n % 10)).length ≤ 10 := digR_len _ 9 (by omega)
      have e1 : (n : Int).tdiv 10 = ((n / 10 : Nat) : Int) := by rw [Int.tdiv_eq_ediv_of_nonneg (by omega)]; omega
      have e2 : (n : Int).tmod 10 = ((n % 10 : Nat) : Int) := by rw [Int.tmod_eq_emod_of_nonneg (by omega)]; omega
      have e3 : (n : Int) / 10 = ((n / 10 : Nat) : Int) := by omega
      have e4 : (n : Int) % 10 = ((n % 10 : Nat) : Int) := by omega
      generalize digR (n / 10) = d1 at h1 hl1 ⊢
      generalize digR (n % 10) = d2 at h2 hl2 ⊢
      have hn1 : n / 10 ≤ 999999999 := by omega
      have hn2 : n % 10 ≤ 9 := by omega
      generalize n / 10 = a at *
      generalize n % 10 = b at *
      go_enter Tryd.func32, Tryd.ntmps32
      go_wp2_with fail
      refine (h1.out _).mono ?_
      rintro e w1 ⟨rfl, hb1⟩
      go_wp2_with fail
      refine (h2.out _).mono ?_
      rintro e w2 ⟨rfl, hb2⟩
      go_wp2_with fail
      go_ret
      exact ⟨rfl, hb1.trans (hb2.mono hb1.size)⟩
    · have hlt : ¬ (9 : Int) < (n : Int) := by omega
      rw [digR, if_neg h9]
      clear ih
      have hs : ∀ W : World, Sl (W.alloc (.cells #[.int .u8 (48 + (n : Int))] 5)) (some ⟨W.heap.size, 0, none⟩) ([UInt8.ofNat (48 + n)].map byteV) := fun W => by
        have := Blk.sl (Blk.new W 5 #[.int .u8 (48 + (n : Int))]) 0
        rw [List.map_cons, byteV, u8_lt _ (by omega)]
        simpa using this
      have hcv : ∀ W : World, (convert 22 9 (.slice (some ⟨W.heap.size, 0, none⟩) 1 1)).run Tryd.prog (W.alloc (.cells #[.int .u8 (48 + (n : Int))] 5)) = .ok (.string (bs [UInt8.ofNat (48 + n)])) (W.alloc (.cells #[.int .u8 (48 + (n : Int))] 5)) := fun W =>
        run_bytes_str _ _ 5 (by kernel_rfl) (by kernel_rfl) (by kernel_rfl) (hs W) 1 1 rfl
      clear hs
      have hn' : n ≤ 9 := by omega
      go_enter Tryd.func32, Tryd.ntmps32
      go_wp2_with fail
      go_ret
      exact ⟨rfl, (Below.refl _ _).alloc (Nat.le_refl _) _⟩
end Go.Proofs.YthcbidbhkikhmaaDoor
