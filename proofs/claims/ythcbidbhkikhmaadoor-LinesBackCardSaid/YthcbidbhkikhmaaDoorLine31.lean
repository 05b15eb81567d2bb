/- The two Lines: an operation's line. -/
import Derived.Test.YthcbidbhkikhmaaDoorChk31
namespace Go.Proofs.YthcbidbhkikhmaaDoor
open Go Go.RowKit
/-- what stands behind a word for one letter -/
def pieceR (a b : Nat) (l : List UInt8) (c : UInt8) : List UInt8 := 32 :: (if c = 105 then digR a else if c = 110 then digR b else hexR l)
def lineP (s : List UInt8) (p : Bool × Bool × Bool) (a b : Nat) (l : List UInt8) : List UInt8 := s ++ (lettersR p).flatMap (pieceR a b l)
def lineR (s : List UInt8) (id n : Int) (l : List UInt8) : List UInt8 × Int :=
  if okP s id n l.length then (lineP s ((partsR s).getD (false, false, false)) id.toNat n.toNat l, 0) else ([], 2)
theorem words_short (s : List UInt8) (h : (partsR s).isSome = true) : s.length ≤ 6 := by
  unfold partsR at h
  rw [Option.isSome_map] at h
  obtain ⟨e, he⟩ := Option.isSome_iff_exists.1 h
  have h1 := List.find?_some he
  have h2 := List.mem_of_find?_eq_some he
  have h3 : s = e.1 := by simpa using h1
  subst h3
  have : ∀ e ∈ wordE, e.1.length ≤ 6 := by decide
  exact this e h2
theorem hexR_len (l : List UInt8) : (hexR l).length ≤ 2 * l.length + 1 := by
  unfold hexR
  split
  · simp
  · rw [hexL_length]; omega
theorem dig_small (n : Nat) (h : n ≤ 9999999999) : (digR n).length ≤ 10 := digR_len n 9 (by omega)
theorem piece_len (a b : Nat) (l : List UInt8) (c : UInt8) (ha : a ≤ 9999999999) (hb : b ≤ 9999999999) (hl : l.length ≤ 1000) : (pieceR a b l c).length ≤ 3000 := by
  unfold pieceR
  have h1 := dig_small a ha; have h2 := dig_small b hb; have h3 := hexR_len l
  split
  · simp; omega
  · split <;> simp <;> omega
theorem pieces_len (a b : Nat) (l : List UInt8) (ha : a ≤ 9999999999) (hb : b ≤ 9999999999) (hl : l.length ≤ 1000) : ∀ t : List UInt8, (t.flatMap (pieceR a b l)).length ≤ 3000 * t.length
  | [] => by simp
  | c :: t => by
    have h1 := piece_len a b l c ha hb hl
    have h2 := pieces_len a b l ha hb hl t
    rw [List.flatMap_cons, List.length_append, List.length_cons]; omega
theorem letters_mem (p : Bool × Bool × Bool) : ∀ c ∈ lettersR p, c = 105 ∨ c = 110 ∨ c = 98 := by
  obtain ⟨i, n, b⟩ := p
  cases i <;> cases n <;> cases b <;> decide
set_option maxRecDepth 100000 in
set_option maxHeartbeats 8000000 in
theorem ref31_line (s : List UInt8) (id n : Int) (A : Option Addr) (k c : Nat) (l : List UInt8) (w : World) (hA : Sl w A (l.map byteV)) (hl : l.length = k) (hk : k ≤ 100000) :
    Calls Tryd.prog 12 #[.agg #[.string (bs s), .int .i64 id, .int .i64 n, .slice A k c]] w fun e w' => e = .returned (.tuple #[.string (bs (lineR s id n l).1), .int .i64 (lineR s id n l).2]) ∧ Below w.heap.size w w' := by
  have HX := Lib.hid (Blk.new w 24 #[.string (bs s), .int .i64 id, .int .i64 n, .slice A k c])
  have HB0 := Lib.hid (show Below w.heap.size w (w.alloc (.cells #[.string (bs s), .int .i64 id, .int .i64 n, .slice A k c] 24)) from (Below.refl _ _).alloc (Nat.le_refl _) _)
  have Hlt := Lib.hid (show w.heap.size < (w.alloc (.cells #[.string (bs s), .int .i64 id, .int .i64 n, .slice A k c] 24)).heap.size by simp)
  have HA := Lib.hid hA
  have Hl := Lib.hid hl
  have Cchk := Lib.hid (fun W => ref31_check s id n A k c W hk)
  clear hA hl
  obtain ⟨x, y, hxy⟩ : ∃ x y, lineR s id n l = (x, y) := ⟨_, _, rfl⟩
  rw [hxy]
  have Hxy := Lib.hid hxy
  clear hxy
  cases hok : okP s id n k with
  | false =>
    rw [hok] at Cchk
    have hr : lineR s id n l = ([], 2) := by unfold lineR; rw [Hl.out, hok]; rfl
    rw [hr] at Hxy
    cases Hxy.out
    clear hr hok
    go_enter Tryd.func12, Tryd.ntmps12
    go_wp2_with (go_at_call 14; refine (Cchk.out _).mono ?_; rintro e w1 ⟨rfl, hb1⟩)
    go_ret2
    exact ⟨rfl, HB0.out.trans (hb1.mono (Nat.le_of_lt Hlt.out))⟩
  | true =>
    rw [hok] at Cchk
    obtain ⟨⟨i, nn, b⟩, hp⟩ : ∃ p, partsR s = some p := by
      rcases h : partsR s with _ | p
      · rw [okP_none h] at hok; cases hok
      · exact ⟨p, rfl⟩
    have hfacts := (okP_some hp).1 hok
    obtain ⟨a, ha⟩ : ∃ a : Nat, id = (a : Int) := ⟨id.toNat, by omega⟩
    obtain ⟨d, hd⟩ : ∃ d : Nat, n = (d : Int) := ⟨n.toNat, by omega⟩
    subst ha hd
    have ha9 : a ≤ 9999999999 := by omega
    have hd9 : d ≤ 9999999999 := by omega
    have hk9 : k ≤ 1000 := hfacts.2.2.1
    have hs6 : s.length ≤ 6 := words_short s (by rw [hp]; rfl)
    have hh := has_parts s
    rw [hp] at hh
    have hh2 : hasR s = (lettersR (i, nn, b), true) := hh
    have Chas := Lib.hid (fun W => ref31_has s W)
    rw [hh2] at Chas
    have hr : lineR s (a : Int) (d : Int) l = (lineP s (i, nn, b) a d l, 0) := by unfold lineR; rw [Hl.out, hok, hp]; rfl
    rw [hr] at Hxy
    cases Hxy.out
    have hl3 := (in_letters i nn b).2.2.2
    have Hmem := Lib.hid (letters_mem (i, nn, b))
    have Hplen := Lib.hid (pieces_len a d l ha9 hd9 (by rw [Hl.out]; exact hk9))
    unfold lineP
    clear hr hok hfacts hp hh hh2 Hxy
    generalize lettersR (i, nn, b) = t at Chas hl3 Hmem ⊢
    have C1 := Lib.hid (fun W => ref31_digits a ha9 W)
    have C2 := Lib.hid (fun W => ref31_digits d hd9 W)
    go_enter Tryd.func12, Tryd.ntmps12
    go_wp2_with (first
      | (go_at_call 14; refine (Cchk.out _).mono ?_; rintro e w1 ⟨rfl, hb1⟩; have hX1 := HX.out.below hb1 Hlt.out; have x0 := hX1.cell 0; have HB1 := Lib.hid (HB0.out.trans (hb1.mono (Nat.le_of_lt Hlt.out))); have HX1 := Lib.hid hX1; clear hX1 hb1)
      | (go_at_call 31; refine (Chas.out _).mono ?_; rintro e w' ⟨rfl, rfl⟩))
    go_loopg [6, 7] t.length (fun g o i => fun wr => ∃ (j : Nat) (st : List UInt8), j + g = t.length ∧ i = .int .i64 (j : Int) ∧ o = .string (bs st) ∧ Hid (st = s ++ (t.take j).flatMap (pieceR a d l)) ∧ Hid (Blk wr w.heap.size 24 #[.string (bs s), .int .i64 (a : Int), .int .i64 (d : Int), .slice A k c]) ∧ Hid (Below w.heap.size w wr))
    case atStart => exact ⟨0, s, by omega, rfl, rfl, Lib.hid (by simp), HX1, HB1⟩
    case round =>
      obtain ⟨j, st, hj, rfl, rfl, Hst, HXr, HBr⟩ := hrel
      cases gk with
      | zero =>
        obtain rfl : j = t.length := by omega
        have hlt : ¬ ((t.length : Int) < (t.length : Int)) := by omega
        go_wp2_with fail
        go_ret2
        have h1 := Hst.out
        rw [List.take_length] at h1
        rw [← h1]
        exact ⟨rfl, HBr.out⟩
      | succ g =>
        have hlt : ((j : Int) < (t.length : Int)) := by omega
        have hjl : j < t.length := by omega
        have hsl : st.length ≤ 10000 := by
          have h1 := Hplen.out (t.take j)
          rw [List.length_take, Nat.min_eq_left (by omega)] at h1
          rw [Hst.out, List.length_append]
          omega
        have Hstep : Hid (∀ z, pieceR a d l t[j] = 32 :: z → (st ++ [32]) ++ z = s ++ (t.take (j + 1)).flatMap (pieceR a d l)) := Lib.hid (fun z hz => by
          rw [List.take_succ_eq_append_getElem hjl, List.flatMap_append, ← List.append_assoc, ← Hst.out]
          simp [hz])
        have x1 := HXr.out.cell 1
        have x2 := HXr.out.cell 2
        have x3 := HXr.out.cell 3
        have Hge := Lib.hid HXr.out.lt
        have hmem := Hmem.out t[j] (List.getElem_mem hjl)
        clear hlt
        have hlt : ((j : Int) < (t.length : Int)) := by omega
        have HJ := Lib.hid hj
        rcases hmem with hc | hc | hc
        · have Hz := Lib.hid (Hstep.out (digR a) (by rw [hc]; rfl))
          have q1 : ((t[j].toNat : Int) == 105) = true := by rw [hc]; rfl
          have hzl := Lib.hid (show ((digR a)).length ≤ 3000 by have := dig_small a ha9; omega)
          clear hc Hstep
          go_wp2_with (go_at_call 32; refine (C1.out _).mono ?_; rintro e w2 ⟨rfl, hb2⟩; have HB2 := Lib.hid (HBr.out.trans (hb2.mono HBr.out.size)); have HX2 := Lib.hid (HXr.out.below hb2 Hge.out); clear hb2; have hz1 := hzl.out; generalize (digR a) = z at Hz hz1 ⊢)
          go_roundg g
          case measure => have := HJ.out; omega
          case rel => exact ⟨j + 1, _, by have := HJ.out; omega, rfl, rfl, Hz, HX2, HB2⟩
        · have Hz := Lib.hid (Hstep.out (digR d) (by rw [hc]; rfl))
          have q1 : ((t[j].toNat : Int) == 105) = false := by rw [hc]; rfl
          have q2 : ((t[j].toNat : Int) == 110) = true := by rw [hc]; rfl
          have hzl := Lib.hid (show ((digR d)).length ≤ 3000 by have := dig_small d hd9; omega)
          clear hc Hstep
          go_wp2_with (go_at_call 32; refine (C2.out _).mono ?_; rintro e w2 ⟨rfl, hb2⟩; have HB2 := Lib.hid (HBr.out.trans (hb2.mono HBr.out.size)); have HX2 := Lib.hid (HXr.out.below hb2 Hge.out); clear hb2; have hz1 := hzl.out; generalize (digR d) = z at Hz hz1 ⊢)
          go_roundg g
          case measure => have := HJ.out; omega
          case rel => exact ⟨j + 1, _, by have := HJ.out; omega, rfl, rfl, Hz, HX2, HB2⟩
        · have Hz := Lib.hid (Hstep.out (hexR l) (by rw [hc]; rfl))
          have q1 : ((t[j].toNat : Int) == 105) = false := by rw [hc]; rfl
          have q2 : ((t[j].toNat : Int) == 110) = false := by rw [hc]; rfl
          have hzl := Lib.hid (show ((hexR l)).length ≤ 3000 by have := hexR_len l; rw [Hl.out] at this; omega)
          clear hc Hstep
          go_wp2_with (go_at_call 33; refine (ref31_hex A k c l _ (HA.out.below HBr.out) Hl.out (by omega)).mono ?_; rintro e w2 ⟨rfl, hb2⟩; have HB2 := Lib.hid (HBr.out.trans (hb2.mono HBr.out.size)); have HX2 := Lib.hid (HXr.out.below hb2 Hge.out); clear hb2; have hz1 := hzl.out; generalize (hexR l) = z at Hz hz1 ⊢)
          go_roundg g
          case measure => have := HJ.out; omega
          case rel => exact ⟨j + 1, _, by have := HJ.out; omega, rfl, rfl, Hz, HX2, HB2⟩
end Go.Proofs.YthcbidbhkikhmaaDoor
