/- The program's Line. -/
import Derived.Test.YthcbidbhkikhmaaDoorLine31
import Derived.Lib.AppendIntMem
namespace Go.Proofs.YthcbidbhkikhmaaDoor
open Go Go.RowKit
def Tb (w : World) : Prop := Lib.TabIs Tryd.prog w "internal/strconv.uint64pow10" .u64 Lib.pow10Tab
theorem Tb.below {w w' : World} (h : Tb w) (hb : Below w.heap.size w w') : Tb w' := Lib.tabBelow_of_tabIs h w' hb
theorem below_grow (w : World) (k : Nat) (os : Array Obj) : Below w.heap.size w (Sort.grow (w.drewN k) os) :=
  ⟨rfl, rfl, rfl, by show w.heap.size ≤ (w.heap ++ os).size; rw [Array.size_append]; exact Nat.le_add_right _ _, fun k hk => by show (w.heap ++ os)[k]? = _; rw [Array.getElem?_append_left hk]⟩
theorem dig_dec (n : Nat) : digR n = Lib.decDigits n := by
  induction n using Nat.strongRecOn with
  | ind n ih =>
    rw [digR, Lib.decDigits]
    by_cases h : n < 10
    · rw [if_neg (by omega), dif_pos h]
    · rw [if_pos (by omega), dif_neg h, ih (n / 10) (by omega)]
      congr 1
      rw [digR, if_neg (by omega)]
theorem lines_itoa (a : Nat) (ha : a ≤ 9999999999) (w : World) (hT : Tb w) : Calls Tryd.prog 29 #[.int .i64 (a : Int)] w fun e w' => e = .returned (.string (bs (digR a))) ∧ Below w.heap.size w w' := by
  refine (Tryd.strconv_Itoa (a : Int) (by omega) (by omega) w hT).mono ?_
  rintro e w' ⟨rfl, k, os, rfl⟩
  refine ⟨?_, below_grow w k os⟩
  unfold Lib.itoa
  rw [if_neg (by omega), Int.toNat_natCast, ← dig_dec]
  rfl
theorem sp32 : ({ data := #[32] } : ByteArray) = bs [32] := rfl
def LW (w : World) (g : Nat) (s : List UInt8) (a d : Int) (A : Option Addr) (k c : Nat) (i nn b : Bool) (W : World) : Prop :=
  Blk W w.heap.size 24 #[.string (bs s), .int .i64 a, .int .i64 d, .slice A k c] ∧ Blk W g 54 #[.bool i, .bool nn, .bool b] ∧ Below w.heap.size w W
theorem LW.stay {w : World} {g : Nat} {s : List UInt8} {a d : Int} {A : Option Addr} {k c : Nat} {i nn b : Bool} {W W' : World} (h : LW w g s a d A k c i nn b W) (hb : Below W.heap.size W W') : LW w g s a d A k c i nn b W' :=
  ⟨h.1.below hb h.1.lt, h.2.1.below hb h.2.1.lt, h.2.2.trans (hb.mono h.2.2.size)⟩
set_option maxRecDepth 100000 in
set_option maxHeartbeats 8000000 in
theorem lines_line (s : List UInt8) (id n : Int) (A : Option Addr) (k c : Nat) (l : List UInt8) (w : World) (hT : Tb w) (hA : Sl w A (l.map byteV)) (hl : l.length = k) :
    Calls Tryd.prog 11 #[.agg #[.string (bs s), .int .i64 id, .int .i64 n, .slice A k c]] w fun e w' => e = .returned (.tuple #[.string (bs (lineR s id n l).1), .int .i64 (lineR s id n l).2]) ∧ Below w.heap.size w w' := by
  have HX := Lib.hid (Blk.new w 24 #[.string (bs s), .int .i64 id, .int .i64 n, .slice A k c])
  have HB0 := Lib.hid (show Below w.heap.size w (w.alloc (.cells #[.string (bs s), .int .i64 id, .int .i64 n, .slice A k c] 24)) from (Below.refl _ _).alloc (Nat.le_refl _) _)
  have Hlt := Lib.hid (show w.heap.size < (w.alloc (.cells #[.string (bs s), .int .i64 id, .int .i64 n, .slice A k c] 24)).heap.size by simp)
  have HA := Lib.hid hA
  have Hl := Lib.hid hl
  have HT := Lib.hid hT
  have Cchk := Lib.hid (fun W => lines_check s id n A k c W)
  clear hA hl hT
  obtain ⟨x, y, hxy⟩ : ∃ x y, lineR s id n l = (x, y) := ⟨_, _, rfl⟩
  rw [hxy]
  have Hxy := Lib.hid hxy
  clear hxy
  cases hok : okP s id n k with
  | false =>
    rw [hok] at Cchk
    have hr : lineR s id n l = ([], 2) := by unfold lineR; rw [Hl.out, hok]; rfl
    rw [hr] at Hxy
    cases Hxy.out
    clear hr hok
    go_enter Tryd.func11, Tryd.ntmps11
    go_wp2_with (go_at_call 13; refine (Cchk.out _).mono ?_; rintro e w1 ⟨rfl, hb1⟩)
    go_ret2
    exact ⟨rfl, HB0.out.trans (hb1.mono (Nat.le_of_lt Hlt.out))⟩
  | true =>
    rw [hok] at Cchk
    obtain ⟨⟨i, nn, b⟩, hp⟩ : ∃ p, partsR s = some p := by
      rcases h : partsR s with _ | p
      · rw [okP_none h] at hok; cases hok
      · exact ⟨p, rfl⟩
    have hfacts := (okP_some hp).1 hok
    obtain ⟨a, ha⟩ : ∃ a : Nat, id = (a : Int) := ⟨id.toNat, by omega⟩
    obtain ⟨d, hd⟩ : ∃ d : Nat, n = (d : Int) := ⟨n.toNat, by omega⟩
    subst ha hd
    have ha9 : a ≤ 9999999999 := by omega
    have hd9 : d ≤ 9999999999 := by omega
    have hk9 : k ≤ 1000 := hfacts.2.2.1
    have hs6 : s.length ≤ 6 := words_short s (by rw [hp]; rfl)
    have hlook := fun (W : World) (m : Nat) (h : W.heap[m]? = some (.map entsE 9)) => run_word s W m false h
    rw [hp] at hlook
    have Hlook : Hid (∀ (W : World) (m : Nat), W.heap[m]? = some (.map entsE 9) → (Instr.lookup 55 (.map (some m)) (.string (bs s)) false).run Tryd.prog W = .ok (.agg #[.bool i, .bool nn, .bool b]) W) := Lib.hid hlook
    have hr : lineR s (a : Int) (d : Int) l = (lineP s (i, nn, b) a d l, 0) := by unfold lineR; rw [Hl.out, hok, hp]; rfl
    rw [hr] at Hxy
    cases Hxy.out
    have C1 := Lib.hid (fun W h => lines_itoa a ha9 W h)
    have C2 := Lib.hid (fun W h => lines_itoa d hd9 W h)
    have hz1 := dig_small a ha9
    have hz2 := dig_small d hd9
    have hz3 := hexR_len l
    rw [Hl.out] at hz3
    clear hr hok hfacts hp Hxy hlook
    go_enter Tryd.func11, Tryd.ntmps11
    go_wp2_with (go_at_call 13; refine (Cchk.out _).mono ?_; rintro e w1 ⟨rfl, hb1⟩; have hX1 := HX.out.below hb1 Hlt.out; have x0 := hX1.cell 0; have HB1 := Lib.hid (HB0.out.trans (hb1.mono (Nat.le_of_lt Hlt.out))); have HX1 := Lib.hid hX1; clear hX1 hb1)
    refine wp_region_tree (fun w' => w'.cell? ⟨w.heap.size, 0, none⟩ = some (.string (bs s))) 8 (.take 1 (.take 2 (.take 4 (.take 5 (.fork 0 (.take 3 (.step 6 (.step 7 (.done)))) 6 (.step 0 (.take 3 (.step 7 (.done)))))))))
      (by kernel_rfl) (by kernel_rfl) (fun _ _ d _ _ h => by cases d <;> exact h) (by simp only [Pln.out, Array.getD_eq_getD_getElem?, List.getElem?_toArray, List.getElem?_cons_zero, List.getElem?_cons_succ, Option.getD_some]; rfl) (by simp only [List.map_cons, List.map_nil]; rfl) x0 (fun PE hPE => ?_)
    have K : ∀ (m g : Nat) (W2 : World), Blk W2 w.heap.size 24 #[.string (bs s), .int .i64 (a : Int), .int .i64 (d : Int), .slice A k c] → Blk W2 g 54 #[.bool i, .bool nn, .bool b] → Below w.heap.size w W2 →
        PE ⟨#[.agg #[.string (bs s), .int .i64 (a : Int), .int .i64 (d : Int), .slice A k c], .pointer (some ⟨w.heap.size, 0, none⟩), .string ⟨#[]⟩, .int .i64 0, .int .i64 0, .pointer (some ⟨g, 0, none⟩), undef, .agg #[.string (bs s), .int .i64 (a : Int), .int .i64 (d : Int), .slice A k c], .int .i64 0, .int .i64 0, .bool false, undef,
          .map (some m), .pointer (some ⟨w.heap.size, 0, none⟩), .string (bs s), .agg #[.bool i, .bool nn, .bool b], .pointer (some ⟨w.heap.size, 0, none⟩), .string (bs s),
          undef, undef, undef, undef, undef, undef, undef, undef, undef, undef, undef, undef, undef, undef, undef, undef, undef, undef, undef, undef, undef, undef, undef, undef, undef], []⟩ W2 := by
      intro m g W2 hX hG hb
      refine hPE _ _ ?_
      simp only [List.drop_succ_cons, List.drop_zero]
      clear hPE PE
      have HW := Lib.hid (show LW w g s (a : Int) (d : Int) A k c i nn b W2 from ⟨hX, hG, hb⟩)
      have x1 := hX.cell 1
      have x2 := hX.cell 2
      have x3 := hX.cell 3
      have y0 := hG.cell 0
      have y1 := hG.cell 1
      have y2 := hG.cell 2
      clear hX hG hb HX1 Hlook HB1 HX HB0 Hlt Cchk
      generalize hBB : w.heap.size = B at x1 x2 x3
      have HBB := Lib.hid hBB
      clear hBB
      cases i
      · clear C1
        cases nn
        · clear C2
          cases b
          · go_wp2_with (first
              | (go_at_call 29; refine (C1.out _ (HT.out.below HW.out.2.2)).mono ?_; rintro e w3 ⟨rfl, hb3⟩; have HW' := Lib.hid (HW.out.stay hb3); clear hb3 HW C1; have HW := HW'; clear HW'; have x2' := HW.out.1.cell 2; have x3' := HW.out.1.cell 3; have y1' := HW.out.2.1.cell 1; have y2' := HW.out.2.1.cell 2; rw [HBB.out] at x2' x3')
              | (go_at_call 29; refine (C2.out _ (HT.out.below HW.out.2.2)).mono ?_; rintro e w4 ⟨rfl, hb3⟩; have HW' := Lib.hid (HW.out.stay hb3); clear hb3 HW C2; have HW := HW'; clear HW'; have x3'' := HW.out.1.cell 3; have y2'' := HW.out.2.1.cell 2; rw [HBB.out] at x3'')
              | (go_at_call 30; refine (lines_hex A k c l _ (HA.out.below HW.out.2.2) Hl.out (by omega)).mono ?_; rintro e w5 ⟨rfl, hb3⟩; have HW' := Lib.hid (HW.out.stay hb3); clear hb3 HW; have HW := HW'; clear HW'))
            go_ret2
            refine ⟨?_, HW.out.2.2⟩
            simp [lineP, lettersR]
          · go_wp2_with (first
              | (go_at_call 29; refine (C1.out _ (HT.out.below HW.out.2.2)).mono ?_; rintro e w3 ⟨rfl, hb3⟩; have HW' := Lib.hid (HW.out.stay hb3); clear hb3 HW C1; have HW := HW'; clear HW'; have x2' := HW.out.1.cell 2; have x3' := HW.out.1.cell 3; have y1' := HW.out.2.1.cell 1; have y2' := HW.out.2.1.cell 2; rw [HBB.out] at x2' x3')
              | (go_at_call 29; refine (C2.out _ (HT.out.below HW.out.2.2)).mono ?_; rintro e w4 ⟨rfl, hb3⟩; have HW' := Lib.hid (HW.out.stay hb3); clear hb3 HW C2; have HW := HW'; clear HW'; have x3'' := HW.out.1.cell 3; have y2'' := HW.out.2.1.cell 2; rw [HBB.out] at x3'')
              | (go_at_call 30; refine (lines_hex A k c l _ (HA.out.below HW.out.2.2) Hl.out (by omega)).mono ?_; rintro e w5 ⟨rfl, hb3⟩; have HW' := Lib.hid (HW.out.stay hb3); clear hb3 HW; have HW := HW'; clear HW'))
            go_ret2
            refine ⟨?_, HW.out.2.2⟩
            simp [lineP, lettersR, pieceR, sp32, bs_append]
        · cases b
          · go_wp2_with (first
              | (go_at_call 29; refine (C1.out _ (HT.out.below HW.out.2.2)).mono ?_; rintro e w3 ⟨rfl, hb3⟩; have HW' := Lib.hid (HW.out.stay hb3); clear hb3 HW C1; have HW := HW'; clear HW'; have x2' := HW.out.1.cell 2; have x3' := HW.out.1.cell 3; have y1' := HW.out.2.1.cell 1; have y2' := HW.out.2.1.cell 2; rw [HBB.out] at x2' x3')
              | (go_at_call 29; refine (C2.out _ (HT.out.below HW.out.2.2)).mono ?_; rintro e w4 ⟨rfl, hb3⟩; have HW' := Lib.hid (HW.out.stay hb3); clear hb3 HW C2; have HW := HW'; clear HW'; have x3'' := HW.out.1.cell 3; have y2'' := HW.out.2.1.cell 2; rw [HBB.out] at x3'')
              | (go_at_call 30; refine (lines_hex A k c l _ (HA.out.below HW.out.2.2) Hl.out (by omega)).mono ?_; rintro e w5 ⟨rfl, hb3⟩; have HW' := Lib.hid (HW.out.stay hb3); clear hb3 HW; have HW := HW'; clear HW'))
            go_ret2
            refine ⟨?_, HW.out.2.2⟩
            simp [lineP, lettersR, pieceR, sp32, bs_append]
          · go_wp2_with (first
              | (go_at_call 29; refine (C1.out _ (HT.out.below HW.out.2.2)).mono ?_; rintro e w3 ⟨rfl, hb3⟩; have HW' := Lib.hid (HW.out.stay hb3); clear hb3 HW C1; have HW := HW'; clear HW'; have x2' := HW.out.1.cell 2; have x3' := HW.out.1.cell 3; have y1' := HW.out.2.1.cell 1; have y2' := HW.out.2.1.cell 2; rw [HBB.out] at x2' x3')
              | (go_at_call 29; refine (C2.out _ (HT.out.below HW.out.2.2)).mono ?_; rintro e w4 ⟨rfl, hb3⟩; have HW' := Lib.hid (HW.out.stay hb3); clear hb3 HW C2; have HW := HW'; clear HW'; have x3'' := HW.out.1.cell 3; have y2'' := HW.out.2.1.cell 2; rw [HBB.out] at x3'')
              | (go_at_call 30; refine (lines_hex A k c l _ (HA.out.below HW.out.2.2) Hl.out (by omega)).mono ?_; rintro e w5 ⟨rfl, hb3⟩; have HW' := Lib.hid (HW.out.stay hb3); clear hb3 HW; have HW := HW'; clear HW'))
            go_ret2
            refine ⟨?_, HW.out.2.2⟩
            simp [lineP, lettersR, pieceR, sp32, bs_append]
      · cases nn
        · clear C2
          cases b
          · go_wp2_with (first
              | (go_at_call 29; refine (C1.out _ (HT.out.below HW.out.2.2)).mono ?_; rintro e w3 ⟨rfl, hb3⟩; have HW' := Lib.hid (HW.out.stay hb3); clear hb3 HW C1; have HW := HW'; clear HW'; have x2' := HW.out.1.cell 2; have x3' := HW.out.1.cell 3; have y1' := HW.out.2.1.cell 1; have y2' := HW.out.2.1.cell 2; rw [HBB.out] at x2' x3')
              | (go_at_call 29; refine (C2.out _ (HT.out.below HW.out.2.2)).mono ?_; rintro e w4 ⟨rfl, hb3⟩; have HW' := Lib.hid (HW.out.stay hb3); clear hb3 HW C2; have HW := HW'; clear HW'; have x3'' := HW.out.1.cell 3; have y2'' := HW.out.2.1.cell 2; rw [HBB.out] at x3'')
              | (go_at_call 30; refine (lines_hex A k c l _ (HA.out.below HW.out.2.2) Hl.out (by omega)).mono ?_; rintro e w5 ⟨rfl, hb3⟩; have HW' := Lib.hid (HW.out.stay hb3); clear hb3 HW; have HW := HW'; clear HW'))
            go_ret2
            refine ⟨?_, HW.out.2.2⟩
            simp [lineP, lettersR, pieceR, sp32, bs_append]
          · go_wp2_with (first
              | (go_at_call 29; refine (C1.out _ (HT.out.below HW.out.2.2)).mono ?_; rintro e w3 ⟨rfl, hb3⟩; have HW' := Lib.hid (HW.out.stay hb3); clear hb3 HW C1; have HW := HW'; clear HW'; have x2' := HW.out.1.cell 2; have x3' := HW.out.1.cell 3; have y1' := HW.out.2.1.cell 1; have y2' := HW.out.2.1.cell 2; rw [HBB.out] at x2' x3')
              | (go_at_call 29; refine (C2.out _ (HT.out.below HW.out.2.2)).mono ?_; rintro e w4 ⟨rfl, hb3⟩; have HW' := Lib.hid (HW.out.stay hb3); clear hb3 HW C2; have HW := HW'; clear HW'; have x3'' := HW.out.1.cell 3; have y2'' := HW.out.2.1.cell 2; rw [HBB.out] at x3'')
              | (go_at_call 30; refine (lines_hex A k c l _ (HA.out.below HW.out.2.2) Hl.out (by omega)).mono ?_; rintro e w5 ⟨rfl, hb3⟩; have HW' := Lib.hid (HW.out.stay hb3); clear hb3 HW; have HW := HW'; clear HW'))
            go_ret2
            refine ⟨?_, HW.out.2.2⟩
            simp [lineP, lettersR, pieceR, sp32, bs_append]
        · cases b
          · go_wp2_with (first
              | (go_at_call 29; refine (C1.out _ (HT.out.below HW.out.2.2)).mono ?_; rintro e w3 ⟨rfl, hb3⟩; have HW' := Lib.hid (HW.out.stay hb3); clear hb3 HW C1; have HW := HW'; clear HW'; have x2' := HW.out.1.cell 2; have x3' := HW.out.1.cell 3; have y1' := HW.out.2.1.cell 1; have y2' := HW.out.2.1.cell 2; rw [HBB.out] at x2' x3')
              | (go_at_call 29; refine (C2.out _ (HT.out.below HW.out.2.2)).mono ?_; rintro e w4 ⟨rfl, hb3⟩; have HW' := Lib.hid (HW.out.stay hb3); clear hb3 HW C2; have HW := HW'; clear HW'; have x3'' := HW.out.1.cell 3; have y2'' := HW.out.2.1.cell 2; rw [HBB.out] at x3'')
              | (go_at_call 30; refine (lines_hex A k c l _ (HA.out.below HW.out.2.2) Hl.out (by omega)).mono ?_; rintro e w5 ⟨rfl, hb3⟩; have HW' := Lib.hid (HW.out.stay hb3); clear hb3 HW; have HW := HW'; clear HW'))
            go_ret2
            refine ⟨?_, HW.out.2.2⟩
            simp [lineP, lettersR, pieceR, sp32, bs_append]
          · go_wp2_with (first
              | (go_at_call 29; refine (C1.out _ (HT.out.below HW.out.2.2)).mono ?_; rintro e w3 ⟨rfl, hb3⟩; have HW' := Lib.hid (HW.out.stay hb3); clear hb3 HW C1; have HW := HW'; clear HW'; have x2' := HW.out.1.cell 2; have x3' := HW.out.1.cell 3; have y1' := HW.out.2.1.cell 1; have y2' := HW.out.2.1.cell 2; rw [HBB.out] at x2' x3')
              | (go_at_call 29; refine (C2.out _ (HT.out.below HW.out.2.2)).mono ?_; rintro e w4 ⟨rfl, hb3⟩; have HW' := Lib.hid (HW.out.stay hb3); clear hb3 HW C2; have HW := HW'; clear HW'; have x3'' := HW.out.1.cell 3; have y2'' := HW.out.2.1.cell 2; rw [HBB.out] at x3'')
              | (go_at_call 30; refine (lines_hex A k c l _ (HA.out.below HW.out.2.2) Hl.out (by omega)).mono ?_; rintro e w5 ⟨rfl, hb3⟩; have HW' := Lib.hid (HW.out.stay hb3); clear hb3 HW; have HW := HW'; clear HW'))
            go_ret2
            refine ⟨?_, HW.out.2.2⟩
            simp [lineP, lettersR, pieceR, sp32, bs_append]
    refine tree_take (v := ?_) rfl (by rfl) ?_ ?_
    rotate_left
    · intro _ hSw; (try dsimp only at hSw); go_simp; (try with_reducible rfl)
    simp only [List.setIfInBounds_toArray, List.set_cons_zero, List.set_cons_succ]
    refine tree_take (v := ?_) rfl (by rfl) ?_ ?_
    rotate_left
    · intro _ hSw; (try dsimp only at hSw); go_simp; (try with_reducible rfl)
    simp only [List.setIfInBounds_toArray, List.set_cons_zero, List.set_cons_succ]
    refine tree_take (v := ?_) rfl (by rfl) ?_ ?_
    rotate_left
    · intro _ hSw; (try dsimp only at hSw); go_simp; (try with_reducible rfl)
    simp only [List.setIfInBounds_toArray, List.set_cons_zero, List.set_cons_succ]
    refine tree_take (v := ?_) rfl (by rfl) ?_ ?_
    rotate_left
    · intro _ hSw; (try dsimp only at hSw); go_simp; (try with_reducible rfl)
    simp only [List.setIfInBounds_toArray, List.set_cons_zero, List.set_cons_succ]
    refine ⟨?_, ?_⟩
    · refine tree_call rfl (by rfl) (by first | (go_simp; done) | (go_simp; rfl)) (lines_words' _) ?_
      rintro e w2 ⟨m, rfl, hm, hb2⟩
      have hX2 := HX1.out.drew'.below hb2 HX1.out.lt
      refine ⟨_, rfl, fun w' => w'.cell? ⟨w.heap.size, 0, none⟩ = some (.string (bs s)) ∧ w'.heap[m]? = some (.map entsE 9), fun _ h => h.1, ⟨hX2.cell 0, hm⟩, ?_⟩
      simp only [List.setIfInBounds_toArray, List.set_cons_zero, List.set_cons_succ]
      refine tree_take (v := ?_) rfl (by rfl) ?_ ?_
      rotate_left
      · intro _ hSw; (try dsimp only at hSw); have hlk := Hlook.out _ m hSw.2; go_simp; (try with_reducible rfl)
      simp only [List.setIfInBounds_toArray, List.set_cons_zero, List.set_cons_succ]
      refine tree_value (v := ?_) (w' := ?_) rfl (by rfl) ?_ ?_ ?_
      rotate_left 2
      · go_simp; (try (constructor <;> with_reducible rfl))
      · exact ⟨(hX2.alloc _).cell 0, (Below.heap_alloc w2 _ m (heap_lt hm)).trans hm⟩
      simp only [List.setIfInBounds_toArray, List.set_cons_zero, List.set_cons_succ]
      refine tree_skip _ (w' := ?_) rfl (by rfl) ?_ ?_ ?_
      rotate_left 1
      · go_simp; (first | (with_reducible rfl) | (constructor <;> with_reducible rfl) | skip)
      · exact ⟨(hX2.alloc _).cell 0, (Below.heap_alloc w2 _ m (heap_lt hm)).trans hm⟩
      exact K m w2.heap.size _ (hX2.alloc _) (Blk.new w2 54 _) ((HB1.out.drew.trans (hb2.mono HB1.out.size)).alloc (Nat.le_trans HB1.out.size hb2.size) _)
    · skip
      refine tree_value (v := ?_) (w' := ?_) rfl (by rfl) ?_ ?_ ?_
      rotate_left 2
      · go_simp; (try (constructor <;> with_reducible rfl))
      · exact (HX1.out.drew'.alloc _).cell 0
      simp only [List.setIfInBounds_toArray, List.set_cons_zero, List.set_cons_succ]
      refine tree_call rfl (by rfl) (by first | (go_simp; done) | (go_simp; rfl)) (lines_words' _) ?_
      rintro e w2 ⟨m, rfl, hm, hb2⟩
      have hX2 := (HX1.out.drew'.alloc (.cells #[.bool false, .bool false, .bool false] 54)).below hb2 (Nat.lt_of_lt_of_eq (Nat.lt_succ_of_lt HX1.out.lt) (World.size_alloc w1 _).symm)
      have hG1 := (Blk.new w1.drew 54 #[.bool false, .bool false, .bool false]).below hb2 (Nat.lt_of_lt_of_eq (Nat.lt_succ_self _) (World.size_alloc w1 _).symm)
      refine ⟨_, rfl, fun w' => w'.cell? ⟨w.heap.size, 0, none⟩ = some (.string (bs s)) ∧ w'.heap[m]? = some (.map entsE 9), fun _ h => h.1, ⟨hX2.cell 0, hm⟩, ?_⟩
      simp only [List.setIfInBounds_toArray, List.set_cons_zero, List.set_cons_succ]
      refine tree_take (v := ?_) rfl (by rfl) ?_ ?_
      rotate_left
      · intro _ hSw; (try dsimp only at hSw); have hlk := Hlook.out _ m hSw.2; go_simp; (try with_reducible rfl)
      simp only [List.setIfInBounds_toArray, List.set_cons_zero, List.set_cons_succ]
      have g0 := hG1.cell 0
      have g1 := hG1.cell 1
      have g2 := hG1.cell 2
      have f0 := hG1.frozen 0
      have f1 := hG1.frozen 1
      have f2 := hG1.frozen 2
      simp only [World.size_drew] at g0 g1 g2 f0 f1 f2
      have hmg : m ≠ w1.heap.size := map_ne hG1 hm
      have hxg : w.heap.size ≠ w1.heap.size := Nat.ne_of_lt HX1.out.lt
      have hX3 := ((hX2.far (p := ⟨w1.heap.size, 0, none⟩) hxg (.bool i)).far (p := ⟨w1.heap.size, 1, none⟩) hxg (.bool nn)).far (p := ⟨w1.heap.size, 2, none⟩) hxg (.bool b)
      have hG3 := ((hG1.set_ 0 (.bool i)).set_ 1 (.bool nn)).set_ 2 (.bool b)
      have hle : w.heap.size ≤ w1.heap.size := HB1.out.size
      have hbW := HB1.out.drew.alloc (by exact hle) (.cells #[.bool false, .bool false, .bool false] 54)
      have hb3 := (((hbW.trans (hb2.mono (Nat.le_trans hle (Nat.le_of_lt (Nat.lt_of_lt_of_eq (Nat.lt_succ_self _) (World.size_alloc w1 _).symm))))).setCell (p := ⟨w1.heap.size, 0, none⟩) hle (.bool i)).setCell (p := ⟨w1.heap.size, 1, none⟩) hle (.bool nn)).setCell (p := ⟨w1.heap.size, 2, none⟩) hle (.bool b)
      refine tree_skip _ (w' := ?_) rfl (by rfl) ?_ ?_ ?_
      rotate_left 1
      · go_simp; (first | (with_reducible rfl) | (constructor <;> with_reducible rfl) | skip)
      · refine ⟨hX3.cell 0, ?_⟩
        rw [Below.heap_setCell _ _ _ _ hmg, Below.heap_setCell _ _ _ _ hmg, Below.heap_setCell _ _ _ _ hmg]
        exact hm
      exact K m w1.heap.size _ hX3 hG3 hb3
end Go.Proofs.YthcbidbhkikhmaaDoor
