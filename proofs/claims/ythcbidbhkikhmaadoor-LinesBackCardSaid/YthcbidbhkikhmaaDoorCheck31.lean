/- The two Checks: an operation may be, or not. -/
import Derived.Test.YthcbidbhkikhmaaDoorWords
namespace Go.Proofs.YthcbidbhkikhmaaDoor
open Go Go.RowKit
def numOk (n : Int) (has : Bool) : Bool := (n == 0) || (has && decide (0 < n) && decide (n ≤ 9999999999))
theorem numOk_iff (n : Int) (has : Bool) : numOk n has = true ↔ n = 0 ∨ (has = true ∧ 0 < n ∧ n ≤ 9999999999) := by
  simp [numOk, and_assoc]
def okP (s : List UInt8) (id n : Int) (k : Nat) : Bool :=
  match partsR s with
  | none => false
  | some p => numOk id p.1 && numOk n p.2.1 && decide (k ≤ 1000) && (decide (k = 0) || p.2.2)
theorem okP_none {s : List UInt8} {id n : Int} {k : Nat} (h : partsR s = none) : okP s id n k = false := by simp [okP, h]
theorem okP_some {s : List UInt8} {id n : Int} {k : Nat} {i nn b : Bool} (h : partsR s = some (i, nn, b)) : okP s id n k = true ↔ (id = 0 ∨ (i = true ∧ 0 < id ∧ id ≤ 9999999999)) ∧ (n = 0 ∨ (nn = true ∧ 0 < n ∧ n ≤ 9999999999)) ∧ k ≤ 1000 ∧ (k = 0 ∨ b = true) := by
  simp [okP, h, numOk_iff, and_assoc]
theorem okP_not {s : List UInt8} {id n : Int} {k : Nat} {i nn b : Bool} (h : partsR s = some (i, nn, b)) (hn : ¬ ((id = 0 ∨ (i = true ∧ 0 < id ∧ id ≤ 9999999999)) ∧ (n = 0 ∨ (nn = true ∧ 0 < n ∧ n ≤ 9999999999)) ∧ k ≤ 1000 ∧ (k = 0 ∨ b = true))) : okP s id n k = false := by
  rw [Bool.eq_false_iff]; intro h1; exact hn ((okP_some h).1 h1)
def lettersR (p : Bool × Bool × Bool) : List UInt8 := (if p.1 then [105] else []) ++ (if p.2.1 then [110] else []) ++ (if p.2.2 then [98] else [])
theorem has_parts (s : List UInt8) : hasR s = match partsR s with | none => ([], false) | some p => (lettersR p, true) := by
  have hb : ∀ t : List UInt8, (s == t) = decide (s = t) := fun t => by rw [Bool.eq_iff_iff, beq_iff_eq, decide_eq_true_iff]
  unfold hasR partsR wordE
  simp only [List.find?_cons, hb, List.find?_nil]
  by_cases h0 : s = wOpen
  · simp [h0]; rfl
  by_cases h1 : s = wFeed
  · simp [h1]; rfl
  by_cases h2 : s = wEnd
  · simp [h2]; rfl
  by_cases h3 : s = wDrain
  · simp [h3]; rfl
  by_cases h4 : s = wClose
  · simp [h4]; rfl
  by_cases h5 : s = wEvict
  · simp [h5]; rfl
  by_cases h6 : s = wStatus
  · simp [h6]; rfl
  by_cases h7 : s = wPick
  · simp [h7]; rfl
  by_cases h8 : s = wPress
  · simp [h8]; rfl
  simp [h0, h1, h2, h3, h4, h5, h6, h7, h8]
theorem in_letters (i n b : Bool) : inR (lettersR (i, n, b)) 105 = i ∧ inR (lettersR (i, n, b)) 110 = n ∧ inR (lettersR (i, n, b)) 98 = b ∧ (lettersR (i, n, b)).length ≤ 3 := by
  cases i <;> cases n <;> cases b <;> decide
set_option maxRecDepth 100000 in
set_option maxHeartbeats 8000000 in
theorem ref31_check (s : List UInt8) (id n : Int) (A : Option Addr) (k c : Nat) (w : World) (hk : k ≤ 100000) : Calls Tryd.prog 14 #[.agg #[.string (bs s), .int .i64 id, .int .i64 n, .slice A k c]] w fun e w' => e = .returned (.int .i64 (if okP s id n k then 0 else 2)) ∧ Below w.heap.size w w' := by
  have Chas := Lib.hid (fun W => ref31_has s W)
  have hh := has_parts s
  have hbl : Below w.heap.size w (w.alloc (.cells #[.string (bs s), .int .i64 id, .int .i64 n, .slice A k c] 24)) := (Below.refl _ _).alloc (Nat.le_refl _) _
  have Hbl := Lib.hid hbl
  clear hbl
  rcases hp : partsR s with _ | ⟨i, nn, b⟩
  · rw [hp] at hh
    rw [hh] at Chas
    have hr := okP_none (id := id) (n := n) (k := k) hp
    rw [hr, if_neg Bool.false_ne_true]
    clear hr hp hh
    go_enter Tryd.func14, Tryd.ntmps14
    go_wp2_with (go_at_call 31; refine (Chas.out _).mono ?_; rintro e w' ⟨rfl, rfl⟩)
    go_ret
    exact ⟨rfl, Hbl.out⟩
  rw [hp] at hh
  have hh2 : hasR s = (lettersR (i, nn, b), true) := hh
  rw [hh2] at Chas
  obtain ⟨hi1, hi2, hi3, hl3⟩ := in_letters i nn b
  have Hp := Lib.hid hp
  clear hp hh hh2
  generalize lettersR (i, nn, b) = l at Chas hi1 hi2 hi3 hl3
  have C1 : Hid (∀ W, Calls Tryd.prog 35 #[.string (bs l), .int .u8 105] W fun e w' => e = .returned (.bool i) ∧ W = w') := Lib.hid (fun W => by have h := ref31_in l 105 W (by omega); rw [hi1] at h; exact h)
  have C2 : Hid (∀ W, Calls Tryd.prog 35 #[.string (bs l), .int .u8 110] W fun e w' => e = .returned (.bool nn) ∧ W = w') := Lib.hid (fun W => by have h := ref31_in l 110 W (by omega); rw [hi2] at h; exact h)
  have C3 : Hid (∀ W, Calls Tryd.prog 35 #[.string (bs l), .int .u8 98] W fun e w' => e = .returned (.bool b) ∧ W = w') := Lib.hid (fun W => by have h := ref31_in l 98 W (by omega); rw [hi3] at h; exact h)
  clear hi1 hi2 hi3
  by_cases a1 : id < 0
  · have hr := okP_not (id := id) (n := n) (k := k) Hp.out (by simp; omega)
    rw [hr, if_neg Bool.false_ne_true]
    clear hr
    go_enter Tryd.func14, Tryd.ntmps14
    go_wp2_with (first
      | (go_at_call 31; refine (Chas.out _).mono ?_; rintro e w' ⟨rfl, rfl⟩)
      | (go_at_call 35; refine (C1.out _).mono ?_; rintro e w' ⟨rfl, rfl⟩; clear C1)
      | (go_at_call 35; refine (C2.out _).mono ?_; rintro e w' ⟨rfl, rfl⟩; clear C2)
      | (go_at_call 35; refine (C3.out _).mono ?_; rintro e w' ⟨rfl, rfl⟩; clear C3))
    go_ret
    exact ⟨rfl, (Below.refl _ _).alloc (Nat.le_refl _) _⟩
  by_cases a2 : 9999999999 < id
  · have hr := okP_not (id := id) (n := n) (k := k) Hp.out (by simp; omega)
    rw [hr, if_neg Bool.false_ne_true]
    clear hr
    go_enter Tryd.func14, Tryd.ntmps14
    go_wp2_with (first
      | (go_at_call 31; refine (Chas.out _).mono ?_; rintro e w' ⟨rfl, rfl⟩)
      | (go_at_call 35; refine (C1.out _).mono ?_; rintro e w' ⟨rfl, rfl⟩; clear C1)
      | (go_at_call 35; refine (C2.out _).mono ?_; rintro e w' ⟨rfl, rfl⟩; clear C2)
      | (go_at_call 35; refine (C3.out _).mono ?_; rintro e w' ⟨rfl, rfl⟩; clear C3))
    go_ret
    exact ⟨rfl, (Below.refl _ _).alloc (Nat.le_refl _) _⟩
  by_cases a3 : n < 0
  · have hr := okP_not (id := id) (n := n) (k := k) Hp.out (by simp; omega)
    rw [hr, if_neg Bool.false_ne_true]
    clear hr
    go_enter Tryd.func14, Tryd.ntmps14
    go_wp2_with (first
      | (go_at_call 31; refine (Chas.out _).mono ?_; rintro e w' ⟨rfl, rfl⟩)
      | (go_at_call 35; refine (C1.out _).mono ?_; rintro e w' ⟨rfl, rfl⟩; clear C1)
      | (go_at_call 35; refine (C2.out _).mono ?_; rintro e w' ⟨rfl, rfl⟩; clear C2)
      | (go_at_call 35; refine (C3.out _).mono ?_; rintro e w' ⟨rfl, rfl⟩; clear C3))
    go_ret
    exact ⟨rfl, (Below.refl _ _).alloc (Nat.le_refl _) _⟩
  by_cases a4 : 9999999999 < n
  · have hr := okP_not (id := id) (n := n) (k := k) Hp.out (by simp; omega)
    rw [hr, if_neg Bool.false_ne_true]
    clear hr
    go_enter Tryd.func14, Tryd.ntmps14
    go_wp2_with (first
      | (go_at_call 31; refine (Chas.out _).mono ?_; rintro e w' ⟨rfl, rfl⟩)
      | (go_at_call 35; refine (C1.out _).mono ?_; rintro e w' ⟨rfl, rfl⟩; clear C1)
      | (go_at_call 35; refine (C2.out _).mono ?_; rintro e w' ⟨rfl, rfl⟩; clear C2)
      | (go_at_call 35; refine (C3.out _).mono ?_; rintro e w' ⟨rfl, rfl⟩; clear C3))
    go_ret
    exact ⟨rfl, (Below.refl _ _).alloc (Nat.le_refl _) _⟩
  by_cases a5 : 1000 < k
  · have a5i : 1000 < (k : Int) := by omega
    have hr := okP_not (id := id) (n := n) (k := k) Hp.out (by simp; omega)
    rw [hr, if_neg Bool.false_ne_true]
    clear hr
    go_enter Tryd.func14, Tryd.ntmps14
    go_wp2_with (first
      | (go_at_call 31; refine (Chas.out _).mono ?_; rintro e w' ⟨rfl, rfl⟩)
      | (go_at_call 35; refine (C1.out _).mono ?_; rintro e w' ⟨rfl, rfl⟩; clear C1)
      | (go_at_call 35; refine (C2.out _).mono ?_; rintro e w' ⟨rfl, rfl⟩; clear C2)
      | (go_at_call 35; refine (C3.out _).mono ?_; rintro e w' ⟨rfl, rfl⟩; clear C3))
    go_ret
    exact ⟨rfl, (Below.refl _ _).alloc (Nat.le_refl _) _⟩
  have a5i : ¬ 1000 < (k : Int) := by omega
  cases i
  · by_cases z0 : id = 0
    · have y0 : (id != 0) = false := by rw [bne_eq_false_iff_eq]; exact z0
      cases nn
      · by_cases z1 : n = 0
        · have y1 : (n != 0) = false := by rw [bne_eq_false_iff_eq]; exact z1
          cases b
          · by_cases z2 : k = 0
            · have z2i : ¬ 0 < (k : Int) := by omega
              have hr := (okP_some (id := id) (n := n) (k := k) Hp.out).2 (by simp; omega)
              rw [hr, if_pos rfl]
              clear hr
              go_enter Tryd.func14, Tryd.ntmps14
              go_wp2_with (first
                | (go_at_call 31; refine (Chas.out _).mono ?_; rintro e w' ⟨rfl, rfl⟩)
                | (go_at_call 35; refine (C1.out _).mono ?_; rintro e w' ⟨rfl, rfl⟩; clear C1)
                | (go_at_call 35; refine (C2.out _).mono ?_; rintro e w' ⟨rfl, rfl⟩; clear C2)
                | (go_at_call 35; refine (C3.out _).mono ?_; rintro e w' ⟨rfl, rfl⟩; clear C3))
              go_ret
              exact ⟨rfl, (Below.refl _ _).alloc (Nat.le_refl _) _⟩
            · have z2i : 0 < (k : Int) := by omega
              have hr := okP_not (id := id) (n := n) (k := k) Hp.out (by simp; omega)
              rw [hr, if_neg Bool.false_ne_true]
              clear hr
              go_enter Tryd.func14, Tryd.ntmps14
              go_wp2_with (first
                | (go_at_call 31; refine (Chas.out _).mono ?_; rintro e w' ⟨rfl, rfl⟩)
                | (go_at_call 35; refine (C1.out _).mono ?_; rintro e w' ⟨rfl, rfl⟩; clear C1)
                | (go_at_call 35; refine (C2.out _).mono ?_; rintro e w' ⟨rfl, rfl⟩; clear C2)
                | (go_at_call 35; refine (C3.out _).mono ?_; rintro e w' ⟨rfl, rfl⟩; clear C3))
              go_ret
              exact ⟨rfl, (Below.refl _ _).alloc (Nat.le_refl _) _⟩
          · have hr := (okP_some (id := id) (n := n) (k := k) Hp.out).2 (by simp; omega)
            rw [hr, if_pos rfl]
            clear hr
            go_enter Tryd.func14, Tryd.ntmps14
            go_wp2_with (first
              | (go_at_call 31; refine (Chas.out _).mono ?_; rintro e w' ⟨rfl, rfl⟩)
              | (go_at_call 35; refine (C1.out _).mono ?_; rintro e w' ⟨rfl, rfl⟩; clear C1)
              | (go_at_call 35; refine (C2.out _).mono ?_; rintro e w' ⟨rfl, rfl⟩; clear C2)
              | (go_at_call 35; refine (C3.out _).mono ?_; rintro e w' ⟨rfl, rfl⟩; clear C3))
            go_ret
            exact ⟨rfl, (Below.refl _ _).alloc (Nat.le_refl _) _⟩
        · have y1 : (n != 0) = true := by rw [bne_iff_ne]; exact z1
          have hr := okP_not (id := id) (n := n) (k := k) Hp.out (by simp; omega)
          rw [hr, if_neg Bool.false_ne_true]
          clear hr
          go_enter Tryd.func14, Tryd.ntmps14
          go_wp2_with (first
            | (go_at_call 31; refine (Chas.out _).mono ?_; rintro e w' ⟨rfl, rfl⟩)
            | (go_at_call 35; refine (C1.out _).mono ?_; rintro e w' ⟨rfl, rfl⟩; clear C1)
            | (go_at_call 35; refine (C2.out _).mono ?_; rintro e w' ⟨rfl, rfl⟩; clear C2)
            | (go_at_call 35; refine (C3.out _).mono ?_; rintro e w' ⟨rfl, rfl⟩; clear C3))
          go_ret
          exact ⟨rfl, (Below.refl _ _).alloc (Nat.le_refl _) _⟩
      · cases b
        · by_cases z2 : k = 0
          · have z2i : ¬ 0 < (k : Int) := by omega
            have hr := (okP_some (id := id) (n := n) (k := k) Hp.out).2 (by simp; omega)
            rw [hr, if_pos rfl]
            clear hr
            go_enter Tryd.func14, Tryd.ntmps14
            go_wp2_with (first
              | (go_at_call 31; refine (Chas.out _).mono ?_; rintro e w' ⟨rfl, rfl⟩)
              | (go_at_call 35; refine (C1.out _).mono ?_; rintro e w' ⟨rfl, rfl⟩; clear C1)
              | (go_at_call 35; refine (C2.out _).mono ?_; rintro e w' ⟨rfl, rfl⟩; clear C2)
              | (go_at_call 35; refine (C3.out _).mono ?_; rintro e w' ⟨rfl, rfl⟩; clear C3))
            go_ret
            exact ⟨rfl, (Below.refl _ _).alloc (Nat.le_refl _) _⟩
          · have z2i : 0 < (k : Int) := by omega
            have hr := okP_not (id := id) (n := n) (k := k) Hp.out (by simp; omega)
            rw [hr, if_neg Bool.false_ne_true]
            clear hr
            go_enter Tryd.func14, Tryd.ntmps14
            go_wp2_with (first
              | (go_at_call 31; refine (Chas.out _).mono ?_; rintro e w' ⟨rfl, rfl⟩)
              | (go_at_call 35; refine (C1.out _).mono ?_; rintro e w' ⟨rfl, rfl⟩; clear C1)
              | (go_at_call 35; refine (C2.out _).mono ?_; rintro e w' ⟨rfl, rfl⟩; clear C2)
              | (go_at_call 35; refine (C3.out _).mono ?_; rintro e w' ⟨rfl, rfl⟩; clear C3))
            go_ret
            exact ⟨rfl, (Below.refl _ _).alloc (Nat.le_refl _) _⟩
        · have hr := (okP_some (id := id) (n := n) (k := k) Hp.out).2 (by simp; omega)
          rw [hr, if_pos rfl]
          clear hr
          go_enter Tryd.func14, Tryd.ntmps14
          go_wp2_with (first
            | (go_at_call 31; refine (Chas.out _).mono ?_; rintro e w' ⟨rfl, rfl⟩)
            | (go_at_call 35; refine (C1.out _).mono ?_; rintro e w' ⟨rfl, rfl⟩; clear C1)
            | (go_at_call 35; refine (C2.out _).mono ?_; rintro e w' ⟨rfl, rfl⟩; clear C2)
            | (go_at_call 35; refine (C3.out _).mono ?_; rintro e w' ⟨rfl, rfl⟩; clear C3))
          go_ret
          exact ⟨rfl, (Below.refl _ _).alloc (Nat.le_refl _) _⟩
    · have y0 : (id != 0) = true := by rw [bne_iff_ne]; exact z0
      have hr := okP_not (id := id) (n := n) (k := k) Hp.out (by simp; omega)
      rw [hr, if_neg Bool.false_ne_true]
      clear hr
      go_enter Tryd.func14, Tryd.ntmps14
      go_wp2_with (first
        | (go_at_call 31; refine (Chas.out _).mono ?_; rintro e w' ⟨rfl, rfl⟩)
        | (go_at_call 35; refine (C1.out _).mono ?_; rintro e w' ⟨rfl, rfl⟩; clear C1)
        | (go_at_call 35; refine (C2.out _).mono ?_; rintro e w' ⟨rfl, rfl⟩; clear C2)
        | (go_at_call 35; refine (C3.out _).mono ?_; rintro e w' ⟨rfl, rfl⟩; clear C3))
      go_ret
      exact ⟨rfl, (Below.refl _ _).alloc (Nat.le_refl _) _⟩
  · cases nn
    · by_cases z1 : n = 0
      · have y1 : (n != 0) = false := by rw [bne_eq_false_iff_eq]; exact z1
        cases b
        · by_cases z2 : k = 0
          · have z2i : ¬ 0 < (k : Int) := by omega
            have hr := (okP_some (id := id) (n := n) (k := k) Hp.out).2 (by simp; omega)
            rw [hr, if_pos rfl]
            clear hr
            go_enter Tryd.func14, Tryd.ntmps14
            go_wp2_with (first
              | (go_at_call 31; refine (Chas.out _).mono ?_; rintro e w' ⟨rfl, rfl⟩)
              | (go_at_call 35; refine (C1.out _).mono ?_; rintro e w' ⟨rfl, rfl⟩; clear C1)
              | (go_at_call 35; refine (C2.out _).mono ?_; rintro e w' ⟨rfl, rfl⟩; clear C2)
              | (go_at_call 35; refine (C3.out _).mono ?_; rintro e w' ⟨rfl, rfl⟩; clear C3))
            go_ret
            exact ⟨rfl, (Below.refl _ _).alloc (Nat.le_refl _) _⟩
          · have z2i : 0 < (k : Int) := by omega
            have hr := okP_not (id := id) (n := n) (k := k) Hp.out (by simp; omega)
            rw [hr, if_neg Bool.false_ne_true]
            clear hr
            go_enter Tryd.func14, Tryd.ntmps14
            go_wp2_with (first
              | (go_at_call 31; refine (Chas.out _).mono ?_; rintro e w' ⟨rfl, rfl⟩)
              | (go_at_call 35; refine (C1.out _).mono ?_; rintro e w' ⟨rfl, rfl⟩; clear C1)
              | (go_at_call 35; refine (C2.out _).mono ?_; rintro e w' ⟨rfl, rfl⟩; clear C2)
              | (go_at_call 35; refine (C3.out _).mono ?_; rintro e w' ⟨rfl, rfl⟩; clear C3))
            go_ret
            exact ⟨rfl, (Below.refl _ _).alloc (Nat.le_refl _) _⟩
        · have hr := (okP_some (id := id) (n := n) (k := k) Hp.out).2 (by simp; omega)
          rw [hr, if_pos rfl]
          clear hr
          go_enter Tryd.func14, Tryd.ntmps14
          go_wp2_with (first
            | (go_at_call 31; refine (Chas.out _).mono ?_; rintro e w' ⟨rfl, rfl⟩)
            | (go_at_call 35; refine (C1.out _).mono ?_; rintro e w' ⟨rfl, rfl⟩; clear C1)
            | (go_at_call 35; refine (C2.out _).mono ?_; rintro e w' ⟨rfl, rfl⟩; clear C2)
            | (go_at_call 35; refine (C3.out _).mono ?_; rintro e w' ⟨rfl, rfl⟩; clear C3))
          go_ret
          exact ⟨rfl, (Below.refl _ _).alloc (Nat.le_refl _) _⟩
      · have y1 : (n != 0) = true := by rw [bne_iff_ne]; exact z1
        have hr := okP_not (id := id) (n := n) (k := k) Hp.out (by simp; omega)
        rw [hr, if_neg Bool.false_ne_true]
        clear hr
        go_enter Tryd.func14, Tryd.ntmps14
        go_wp2_with (first
          | (go_at_call 31; refine (Chas.out _).mono ?_; rintro e w' ⟨rfl, rfl⟩)
          | (go_at_call 35; refine (C1.out _).mono ?_; rintro e w' ⟨rfl, rfl⟩; clear C1)
          | (go_at_call 35; refine (C2.out _).mono ?_; rintro e w' ⟨rfl, rfl⟩; clear C2)
          | (go_at_call 35; refine (C3.out _).mono ?_; rintro e w' ⟨rfl, rfl⟩; clear C3))
        go_ret
        exact ⟨rfl, (Below.refl _ _).alloc (Nat.le_refl _) _⟩
    · cases b
      · by_cases z2 : k = 0
        · have z2i : ¬ 0 < (k : Int) := by omega
          have hr := (okP_some (id := id) (n := n) (k := k) Hp.out).2 (by simp; omega)
          rw [hr, if_pos rfl]
          clear hr
          go_enter Tryd.func14, Tryd.ntmps14
          go_wp2_with (first
            | (go_at_call 31; refine (Chas.out _).mono ?_; rintro e w' ⟨rfl, rfl⟩)
            | (go_at_call 35; refine (C1.out _).mono ?_; rintro e w' ⟨rfl, rfl⟩; clear C1)
            | (go_at_call 35; refine (C2.out _).mono ?_; rintro e w' ⟨rfl, rfl⟩; clear C2)
            | (go_at_call 35; refine (C3.out _).mono ?_; rintro e w' ⟨rfl, rfl⟩; clear C3))
          go_ret
          exact ⟨rfl, (Below.refl _ _).alloc (Nat.le_refl _) _⟩
        · have z2i : 0 < (k : Int) := by omega
          have hr := okP_not (id := id) (n := n) (k := k) Hp.out (by simp; omega)
          rw [hr, if_neg Bool.false_ne_true]
          clear hr
          go_enter Tryd.func14, Tryd.ntmps14
          go_wp2_with (first
            | (go_at_call 31; refine (Chas.out _).mono ?_; rintro e w' ⟨rfl, rfl⟩)
            | (go_at_call 35; refine (C1.out _).mono ?_; rintro e w' ⟨rfl, rfl⟩; clear C1)
            | (go_at_call 35; refine (C2.out _).mono ?_; rintro e w' ⟨rfl, rfl⟩; clear C2)
            | (go_at_call 35; refine (C3.out _).mono ?_; rintro e w' ⟨rfl, rfl⟩; clear C3))
          go_ret
          exact ⟨rfl, (Below.refl _ _).alloc (Nat.le_refl _) _⟩
      · have hr := (okP_some (id := id) (n := n) (k := k) Hp.out).2 (by simp; omega)
        rw [hr, if_pos rfl]
        clear hr
        go_enter Tryd.func14, Tryd.ntmps14
        go_wp2_with (first
          | (go_at_call 31; refine (Chas.out _).mono ?_; rintro e w' ⟨rfl, rfl⟩)
          | (go_at_call 35; refine (C1.out _).mono ?_; rintro e w' ⟨rfl, rfl⟩; clear C1)
          | (go_at_call 35; refine (C2.out _).mono ?_; rintro e w' ⟨rfl, rfl⟩; clear C2)
          | (go_at_call 35; refine (C3.out _).mono ?_; rintro e w' ⟨rfl, rfl⟩; clear C3))
        go_ret
        exact ⟨rfl, (Below.refl _ _).alloc (Nat.le_refl _) _⟩
end Go.Proofs.YthcbidbhkikhmaaDoor
