/- The statements' helper code; AddressApart, AddressWalk. -/
import Derived.Test.YtedjplbiibflmaaDoorLaw04
namespace Go.Proofs.YtedjplbiibflmaaDoor
open Go Go.RowKit
def codeOk (c : List UInt8) : Bool := c.all (fun b => b == 48 || b == 49) && decide (1 ≤ c.length) && decide (c.length ≤ 11) && !c.all (fun b => b == 48)
theorem all_take_succ (c : List UInt8) (j : Nat) (h : j < c.length) : (c.take (j + 1)).all (fun b => b == 48) = ((c.take j).all (fun b => b == 48) && c[j] == 48) := by
  rw [List.take_succ_eq_append_getElem h, List.all_append]; simp
set_option maxHeartbeats 1000000 in
theorem law04_code (c : List UInt8) (hc : codeOk c = true) (w : World) : Calls Tryd.prog 16 #[.string (bs c)] w fun e w' => e = .returned (.bool true) ∧ w = w' := by
  simp only [codeOk, Bool.and_eq_true, decide_eq_true_eq, Bool.not_eq_true'] at hc
  obtain ⟨⟨⟨h1, h2⟩, h3⟩, h4⟩ := hc
  have H1 := Lib.hid h1; have H4 := Lib.hid h4; clear h1 h4
  go_enter Tryd.func16, Tryd.ntmps16
  go_wp2_with fail
  go_loopg [3, 4] c.length (fun g t i => fun wr => ∃ (j : Nat) (b : Bool), j + g = c.length ∧ i = .int .i64 (j : Int) ∧ t = .bool b ∧ Hid (b = (c.take j).all (fun b => b == 48)) ∧ w = wr)
  case atStart => exact ⟨0, true, by omega, rfl, rfl, Lib.hid (by simp), rfl⟩
  case round =>
    obtain ⟨j, b, hj, rfl, rfl, Hb, rfl⟩ := hrel
    cases gk with
    | zero =>
      obtain rfl : j = c.length := by omega
      have hlt : ¬ ((c.length : Int) < (c.length : Int)) := by omega
      have hb : b = false := by rw [Hb.out, List.take_length]; exact H4.out
      subst hb
      have e1 : decide ((1 : Int) ≤ (c.length : Int)) = true := by simp; omega
      have e2 : decide ((c.length : Int) ≤ 11) = true := by simp; omega
      clear Hb
      go_wp2_with fail
      go_ret
      exact ⟨rfl, rfl⟩
    | succ g =>
      have hlt : ((j : Int) < (c.length : Int)) := by omega
      have hjl : j < c.length := by omega
      have Hs := Lib.hid (all_take_succ c j hjl)
      have hm := List.all_eq_true.1 H1.out c[j] (List.getElem_mem hjl)
      simp only [Bool.or_eq_true, beq_iff_eq] at hm
      cases b with
      | true =>
        rcases hm with hm | hm
        · have Hm := Lib.hid hm
          have q1 : ((c[j].toNat : Int) != 48) = false := by rw [hm]; rfl
          have q2 : ((c[j].toNat : Int) == 48) = true := by rw [hm]; rfl
          clear hm
          go_wp2_with fail
          go_roundg g
          case measure => omega
          case rel => exact ⟨j + 1, true, by omega, rfl, rfl, Lib.hid (by rw [Hs.out, ← Hb.out, Hm.out]; rfl), rfl⟩
        · have Hm := Lib.hid hm
          have q1 : ((c[j].toNat : Int) != 48) = true := by rw [hm]; rfl
          have q2 : ((c[j].toNat : Int) == 48) = false := by rw [hm]; rfl
          have q3 : ((c[j].toNat : Int) != 49) = false := by rw [hm]; rfl
          clear hm
          go_wp2_with fail
          go_roundg g
          case measure => omega
          case rel => exact ⟨j + 1, false, by omega, rfl, rfl, Lib.hid (by rw [Hs.out, ← Hb.out, Hm.out]; rfl), rfl⟩
      | false =>
        rcases hm with hm | hm
        · have Hm := Lib.hid hm
          have q1 : ((c[j].toNat : Int) != 48) = false := by rw [hm]; rfl
          clear hm
          go_wp2_with fail
          go_roundg g
          case measure => omega
          case rel => exact ⟨j + 1, false, by omega, rfl, rfl, Lib.hid (by rw [Hs.out, ← Hb.out]; rfl), rfl⟩
        · have Hm := Lib.hid hm
          have q1 : ((c[j].toNat : Int) != 48) = true := by rw [hm]; rfl
          have q3 : ((c[j].toNat : Int) != 49) = false := by rw [hm]; rfl
          clear hm
          go_wp2_with fail
          go_roundg g
          case measure => omega
          case rel => exact ⟨j + 1, false, by omega, rfl, rfl, Lib.hid (by rw [Hs.out, ← Hb.out]; rfl), rfl⟩
theorem codes_ok : ∀ k, k < 34 → codeOk (codesL.getD k []) = true := by
  have h : ((List.range 34).all fun k => codeOk (codesL.getD k [])) = true := by kernel_rfl
  intro k hk
  exact List.all_eq_true.1 h k (List.mem_range.2 hk)
theorem codes_apart : ∀ i k, i < 34 → k < 34 → i ≠ k → agree (codesL.getD i []) (codesL.getD k []) = false := by
  have h : ((List.range 34).all fun i => (List.range 34).all fun k => i == k || !agree (codesL.getD i []) (codesL.getD k [])) = true := by kernel_rfl
  intro i k hi hk hne
  have := List.all_eq_true.1 (List.all_eq_true.1 h i (List.mem_range.2 hi)) k (List.mem_range.2 hk)
  simpa [hne] using this
theorem putR_of (k : Nat) (hk : k < 34) : putR (k : Int) = (codesL.getD k [], 0) := by rw [putR, if_neg (by omega)]; simp
set_option maxRecDepth 100000 in
set_option maxHeartbeats 1000000 in
theorem law04_AddressApart (a b : Int) (w : World) (hT : Tz w) : Calls Tryd.prog 4 #[.int .i64 a, .int .i64 b] w fun e w' => e = .returned (.bool true) ∧ Below w.heap.size w w' := by
  have HT := Lib.hid hT; clear hT
  obtain ⟨i, hi⟩ : ∃ i : Nat, a % 34 = (i : Int) := ⟨(a % 34).toNat, by omega⟩
  obtain ⟨k, hk⟩ : ∃ k : Nat, b % 34 = (k : Int) := ⟨(b % 34).toNat, by omega⟩
  have hi2 : i < 34 := by omega
  have hk2 : k < 34 := by omega
  have Pa := Lib.hid (fun W => kit_Pick a 34 W (by decide) (by decide))
  have Pb := Lib.hid (fun W => kit_Pick b 34 W (by decide) (by decide))
  rw [hi] at Pa
  rw [hk] at Pb
  clear hi hk
  have Ua := Lib.hid (fun W (h : Tz W) => address_Put i W h (by omega))
  have Ub := Lib.hid (fun W (h : Tz W) => address_Put k W h (by omega))
  rw [putR_of i hi2] at Ua
  rw [putR_of k hk2] at Ub
  have Ca := Lib.hid (law04_code _ (codes_ok i hi2))
  have Cb := Lib.hid (law04_code _ (codes_ok k hk2))
  have hne := codes_apart i k hi2 hk2
  by_cases hik : i = k
  · subst hik
    clear hne
    generalize codesL.getD i [] = c at Ua Ub Ca Cb
    have hcc : (c == c) = true := beq_self_eq_true c
    go_enter Tryd.func4, Tryd.ntmps4
    go_wp2_with fail
    refine (law04_awake w HT.out).mono ?_
    rintro e w1 ⟨rfl, hb⟩
    have B1 := Lib.hid hb; clear hb
    go_wp2_with fail
    refine (Pa.out _).mono ?_
    rintro e w' ⟨rfl, rfl⟩
    go_wp2_with fail
    refine (Pb.out _).mono ?_
    rintro e w' ⟨rfl, rfl⟩
    go_wp2_with fail
    refine (Ua.out _ (HT.out.below B1.out)).mono ?_
    rintro e w2 ⟨rfl, hb⟩
    have B2 := Lib.hid (B1.out.trans (hb.mono B1.out.size)); clear hb B1
    go_wp2_with fail
    refine (Ub.out _ (HT.out.below B2.out)).mono ?_
    rintro e w3 ⟨rfl, hb⟩
    have B3 := Lib.hid (B2.out.trans (hb.mono B2.out.size)); clear hb B2
    go_wp2_with (go_at_call 16; refine (Ca.out _).mono ?_; rintro e w' ⟨rfl, rfl⟩)
    go_ret
    exact ⟨rfl, B3.out⟩
  · have hag := hne hik
    have hik2 : ((i : Int) == (k : Int)) = false := by rw [beq_eq_false_iff_ne]; omega
    clear hne hik
    generalize codesL.getD i [] = c at Ua Ca hag
    generalize codesL.getD k [] = d at Ub Cb hag
    obtain ⟨mn, hmn⟩ : ∃ mn : Nat, mn = min c.length d.length := ⟨_, rfl⟩
    have hmin : min (c.length : Int) (d.length : Int) = (mn : Int) := by omega
    have hm1 : mn ≤ c.length := by omega
    have hm2 : mn ≤ d.length := by omega
    unfold agree at hag
    rw [← hmn] at hag
    clear hmn
    have hbe : (c.take mn == d.take mn) = false := hag
    clear hag
    go_enter Tryd.func4, Tryd.ntmps4
    go_wp2_with fail
    refine (law04_awake w HT.out).mono ?_
    rintro e w1 ⟨rfl, hb⟩
    have B1 := Lib.hid hb; clear hb
    go_wp2_with fail
    refine (Pa.out _).mono ?_
    rintro e w' ⟨rfl, rfl⟩
    go_wp2_with fail
    refine (Pb.out _).mono ?_
    rintro e w' ⟨rfl, rfl⟩
    go_wp2_with fail
    refine (Ua.out _ (HT.out.below B1.out)).mono ?_
    rintro e w2 ⟨rfl, hb⟩
    have B2 := Lib.hid (B1.out.trans (hb.mono B1.out.size)); clear hb B1
    go_wp2_with fail
    refine (Ub.out _ (HT.out.below B2.out)).mono ?_
    rintro e w3 ⟨rfl, hb⟩
    have B3 := Lib.hid (B2.out.trans (hb.mono B2.out.size)); clear hb B2
    go_wp2_with fail
    refine (Ca.out _).mono ?_
    rintro e w' ⟨rfl, rfl⟩
    go_wp2_with fail
    refine (Cb.out _).mono ?_
    rintro e w' ⟨rfl, rfl⟩
    go_wp2_with fail
    refine wp_region_plan2 (fun _ => True) 8 [(0, true), (1, true), (2, true), (3, true), (4, true), (5, true), (6, true), (7, true)] (by kernel_rfl) (by kernel_rfl) (fun _ _ d _ _ h => by cases d <;> exact h) (by decide) (by simp only [List.map_cons, List.map_nil, Array.getD_eq_getD_getElem?, List.getElem?_toArray, List.getElem?_cons_zero, List.getElem?_cons_succ, Option.getD_some]; rfl) (by simp only [List.map_cons, List.map_nil]; rfl) (trivial) (fun PE hPE => ?_)
    refine plan_take (v := ?_) rfl (by rfl) ?_ ?_
    rotate_left
    · intro _ hSw; (try dsimp only at hSw); go_simp; (try with_reducible rfl)
    simp only [List.setIfInBounds_toArray, List.set_cons_zero, List.set_cons_succ]
    refine plan_take (v := ?_) rfl (by rfl) ?_ ?_
    rotate_left
    · intro _ hSw; (try dsimp only at hSw); go_simp; (try with_reducible rfl)
    simp only [List.setIfInBounds_toArray, List.set_cons_zero, List.set_cons_succ]
    refine plan_take (v := ?_) rfl (by rfl) ?_ ?_
    rotate_left
    · intro _ hSw; (try dsimp only at hSw); go_simp; (try with_reducible rfl)
    simp only [List.setIfInBounds_toArray, List.set_cons_zero, List.set_cons_succ]
    refine plan_take (v := ?_) rfl (by rfl) ?_ ?_
    rotate_left
    · intro _ hSw; (try dsimp only at hSw); go_simp; (try with_reducible rfl)
    simp only [List.setIfInBounds_toArray, List.set_cons_zero, List.set_cons_succ]
    refine plan_take (v := ?_) rfl (by rfl) ?_ ?_
    rotate_left
    · intro _ hSw; (try dsimp only at hSw); go_simp; (try with_reducible rfl)
    simp only [List.setIfInBounds_toArray, List.set_cons_zero, List.set_cons_succ]
    refine plan_take (v := ?_) rfl (by rfl) ?_ ?_
    rotate_left
    · intro _ hSw; (try dsimp only at hSw); go_simp; (try with_reducible rfl)
    simp only [List.setIfInBounds_toArray, List.set_cons_zero, List.set_cons_succ]
    refine plan_take (v := ?_) rfl (by rfl) ?_ ?_
    rotate_left
    · intro _ hSw; (try dsimp only at hSw); go_simp; (try with_reducible rfl)
    simp only [List.setIfInBounds_toArray, List.set_cons_zero, List.set_cons_succ]
    refine plan_take (v := ?_) rfl (by rfl) ?_ ?_
    rotate_left
    · intro _ hSw; (try dsimp only at hSw); go_simp; (try with_reducible rfl)
    simp only [List.setIfInBounds_toArray, List.set_cons_zero, List.set_cons_succ]
    (refine hPE _ _ ?_; simp only [List.drop_succ_cons, List.drop_zero]; clear hPE PE)
    go_wp2_with fail
    go_ret
    exact ⟨rfl, B3.out.drew⟩
set_option maxRecDepth 100000 in
set_option maxHeartbeats 2000000 in
theorem law04_AddressWalk (A : Option Addr) (n c : Nat) (l : List Int) (w : World) (hT : Tz w) (hr : Sl w A (l.map intV)) (hn : l.length = n) :
    Calls Tryd.prog 8 #[.slice A n c] w fun e w' => e = .returned (.bool true) ∧ Below w.heap.size w w' := by
  have HT := Lib.hid hT; clear hT
  have Hn := Lib.hid hn; clear hn
  go_enter Tryd.func8, Tryd.ntmps8
  go_wp2_with fail
  refine (law04_awake w HT.out).mono ?_
  rintro e w1 ⟨rfl, hb⟩
  have B1 := Lib.hid hb
  have hr1 := Lib.hid (hr.below hb)
  clear hb hr
  go_wp2_with fail
  go_loopg [4, 5] n (fun g t i => fun wr => ∃ (a : Int) (k : Nat), k + g = n ∧ i = .int .i64 (k : Int) ∧ t = .int .i64 a ∧ 0 ≤ a ∧ a ≤ 33 ∧ w1 = wr)
  case atStart => exact ⟨0, 0, by omega, rfl, rfl, by omega, by omega, rfl⟩
  case round =>
    obtain ⟨a, k, hk, rfl, rfl, ha0, ha1, rfl⟩ := hrel
    cases gk with
    | zero =>
      have hlt : ¬ ((k : Int) < (n : Int)) := by omega
      go_wp2_with fail
      go_ret
      exact ⟨rfl, B1.out⟩
    | succ g =>
      have hlt : ((k : Int) < (n : Int)) := by omega
      by_cases h33 : (k : Int) < 33
      · obtain ⟨ad, rfl, _, hc⟩ := hr1.out.int k (by rw [Hn.out]; omega)
        generalize l[k]'_ = x at hc
        have Pk := Lib.hid (fun W => kit_Pick x 33 W (by decide) (by decide))
        have hx0 : 0 ≤ x % 33 := by omega
        have hx1 : x % 33 < 33 := by omega
        generalize x % 33 = y at Pk hx0 hx1
        have Nx := Lib.hid (fun W => address_Next a (1 + y) W (by omega) (by omega))
        by_cases hov : 33 < a + (1 + y)
        · rw [show nextR a (1 + y) = (0, 13) by rw [nextR, if_neg (by omega), if_pos hov]] at Nx
          go_wp2_with (first | (go_at_call 14; refine (Pk.out _).mono ?_; rintro e w' ⟨rfl, rfl⟩) | (go_at_call 18; refine (Nx.out _).mono ?_; rintro e w' ⟨rfl, rfl⟩))
          go_ret
          exact ⟨rfl, B1.out⟩
        · rw [show nextR a (1 + y) = (a + (1 + y), 0) by rw [nextR, if_neg (by omega), if_neg hov]] at Nx
          obtain ⟨m, hm⟩ : ∃ m, m = a + (1 + y) := ⟨_, rfl⟩
          rw [← hm] at Nx
          have Rw := Lib.hid (fun W => address_Row m W (by omega))
          rw [show rowR m = ((m - 1) / 11, (m - 1) % 11, 0) by rw [rowR, if_neg (by omega)]] at Rw
          obtain ⟨r, hr⟩ : ∃ r, r = (m - 1) / 11 := ⟨_, rfl⟩
          obtain ⟨q, hq⟩ : ∃ q, q = (m - 1) % 11 := ⟨_, rfl⟩
          rw [← hr, ← hq] at Rw
          have hr0 : 0 ≤ r := by omega
          have hr2 : r ≤ 2 := by omega
          have hq0 : 0 ≤ q := by omega
          have hq2 : q ≤ 10 := by omega
          have hm0 : 0 ≤ m := by omega
          have hm33 : m ≤ 33 := by omega
          have e1 : (11 * r + q + 1 != m) = false := by rw [bne_eq_false_iff_eq]; omega
          have e2 : (m != a + (1 + y)) = false := by rw [bne_eq_false_iff_eq]; exact hm
          have e3 : decide (r < 0) = false := by simp; omega
          have e4 : decide (2 < r) = false := by simp; omega
          have e5 : decide (q < 0) = false := by simp; omega
          have e6 : decide (10 < q) = false := by simp; omega
          clear hr hq hm
          go_wp2_with (first | (go_at_call 14; refine (Pk.out _).mono ?_; rintro e w' ⟨rfl, rfl⟩) | (go_at_call 18; refine (Nx.out _).mono ?_; rintro e w' ⟨rfl, rfl⟩) | (go_at_call 20; refine (Rw.out _).mono ?_; rintro e w' ⟨rfl, rfl⟩))
          go_roundg g
          case measure => omega
          case rel => exact ⟨m, k + 1, by omega, rfl, rfl, hm0, hm33, rfl⟩
      · go_wp2_with fail
        go_ret
        exact ⟨rfl, B1.out⟩
end Go.Proofs.YtedjplbiibflmaaDoor
