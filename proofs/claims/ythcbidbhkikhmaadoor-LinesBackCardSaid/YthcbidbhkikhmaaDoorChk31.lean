/- The program's Check. -/
import Derived.Test.YthcbidbhkikhmaaDoorCheck31
namespace Go.Proofs.YthcbidbhkikhmaaDoor
open Go Go.RowKit
theorem lines_number (n : Int) (has : Bool) (w : World) : Calls Tryd.prog 34 #[.int .i64 n, .bool has] w fun e w' => e = .returned (.bool (numOk n has)) ∧ w = w' := by
  obtain ⟨r, hr⟩ : ∃ r, numOk n has = r := ⟨_, rfl⟩
  rw [hr]
  by_cases h0 : n = 0
  · have q0 : (n == 0) = true := by rw [beq_iff_eq]; exact h0
    have h1 : numOk n has = true := (numOk_iff n has).2 (Or.inl h0)
    rw [h1] at hr
    subst hr
    clear h0 h1
    go_enter Tryd.func34, Tryd.ntmps34
    go_wp2_with fail
    go_ret
    exact ⟨rfl, rfl⟩
  have q0 : (n == 0) = false := by rw [beq_eq_false_iff_ne]; exact h0
  cases has with
  | false =>
    have h1 : numOk n false = false := by rw [Bool.eq_false_iff]; intro h; have := (numOk_iff n false).1 h; simp at this; omega
    rw [h1] at hr
    subst hr
    clear h1
    go_enter Tryd.func34, Tryd.ntmps34
    go_wp2_with fail
    go_ret
    exact ⟨rfl, rfl⟩
  | true =>
    by_cases h2 : 0 < n
    · by_cases h3 : n ≤ 9999999999
      · have h1 : numOk n true = true := (numOk_iff n true).2 (Or.inr ⟨rfl, h2, h3⟩)
        rw [h1] at hr
        subst hr
        clear h1
        go_enter Tryd.func34, Tryd.ntmps34
        go_wp2_with fail
        go_ret
        exact ⟨rfl, rfl⟩
      · have h1 : numOk n true = false := by rw [Bool.eq_false_iff]; intro h; have := (numOk_iff n true).1 h; omega
        rw [h1] at hr
        subst hr
        clear h1
        go_enter Tryd.func34, Tryd.ntmps34
        go_wp2_with fail
        go_ret
        exact ⟨rfl, rfl⟩
    · have h1 : numOk n true = false := by rw [Bool.eq_false_iff]; intro h; have := (numOk_iff n true).1 h; omega
      rw [h1] at hr
      subst hr
      clear h1
      go_enter Tryd.func34, Tryd.ntmps34
      go_wp2_with fail
      go_ret
      exact ⟨rfl, rfl⟩
theorem map_ne {w : World} {g m : Nat} {t : TypeId} {cs : Array Value} {es : Array MapEntry} {cl : Nat} (h : Blk w g t cs) (hm : w.heap[m]? = some (.map es cl)) : m ≠ g := fun e => by
  subst e; unfold Blk at h; rw [hm] at h; cases h
theorem heap_lt {w : World} {m : Nat} {o : Obj} (h : w.heap[m]? = some o) : m < w.heap.size := (Array.getElem?_eq_some_iff.1 h).1
theorem Blk.drew' {w : World} {g : Nat} {t : TypeId} {cs : Array Value} (h : Blk w g t cs) : Blk w.drew g t cs := h
theorem pv_parts (s : List UInt8) : ∃ i nn b is, pvR (partsR s) = .agg #[.bool i, .bool nn, .bool b] ∧ (partsR s).isSome = is ∧ (is = true → partsR s = some (i, nn, b)) ∧ (is = false → partsR s = none) := by
  rcases h : partsR s with _ | ⟨i, nn, b⟩
  · exact ⟨false, false, false, false, rfl, rfl, fun h => (by cases h), fun _ => rfl⟩
  · exact ⟨i, nn, b, true, rfl, rfl, fun _ => rfl, fun h => (by cases h)⟩
set_option maxRecDepth 100000 in
set_option maxHeartbeats 8000000 in
theorem lines_check (s : List UInt8) (id n : Int) (A : Option Addr) (k c : Nat) (w : World) : Calls Tryd.prog 13 #[.agg #[.string (bs s), .int .i64 id, .int .i64 n, .slice A k c]] w fun e w' => e = .returned (.int .i64 (if okP s id n k then 0 else 2)) ∧ Below w.heap.size w w' := by
  obtain ⟨r, hr⟩ : ∃ r : Int, (if okP s id n k then 0 else 2) = r := ⟨_, rfl⟩
  rw [hr]
  have HR := Lib.hid hr
  clear hr
  obtain ⟨i, nn, b, is, hpv, his, hs1, hs0⟩ := pv_parts s
  have hlook := fun (W : World) (m : Nat) (h : W.heap[m]? = some (.map entsE 9)) => run_word s W m true h
  rw [hpv, his, if_pos rfl] at hlook
  have Hlook := Lib.hid hlook
  have HS1 := Lib.hid hs1
  have HS0 := Lib.hid hs0
  have Hlt := Lib.hid (show w.heap.size < (w.alloc (.cells #[.string (bs s), .int .i64 id, .int .i64 n, .slice A k c] 24)).heap.size by simp)
  have HX := Lib.hid (Blk.new w 24 #[.string (bs s), .int .i64 id, .int .i64 n, .slice A k c])
  have HB0 := Lib.hid (show Below w.heap.size w (w.alloc (.cells #[.string (bs s), .int .i64 id, .int .i64 n, .slice A k c] 24)).drew from ((Below.refl _ _).alloc (Nat.le_refl _) _).drew)
  obtain ⟨w0, hw0⟩ : ∃ w0, w0 = w.alloc (.cells #[.string (bs s), .int .i64 id, .int .i64 n, .slice A k c] 24) := ⟨_, rfl⟩
  have HW0 := Lib.hid hw0
  rw [← hw0] at Hlt HX HB0
  clear hpv his hs1 hs0 hlook hw0
  go_enter Tryd.func13, Tryd.ntmps13
  go_wp2_with fail
  rw [← HW0.out]
  refine wp_region_tree (fun w' => w'.cell? ⟨w.heap.size, 0, none⟩ = some (.string (bs s))) 9 (.take 1 (.take 2 (.fork 0 (.take 3 (.take 4 (.take 5 (.take 6 (.step 7 (.step 8 (.done))))))) 7 (.step 0 (.take 3 (.take 4 (.take 5 (.take 6 (.step 8 (.done))))))))))
    (by kernel_rfl) (by kernel_rfl) (fun _ _ d _ _ h => by cases d <;> exact h) (by simp only [Pln.out, Array.getD_eq_getD_getElem?, List.getElem?_toArray, List.getElem?_cons_zero, List.getElem?_cons_succ, Option.getD_some]; rfl) (by simp only [List.map_cons, List.map_nil]; rfl) (HX.out.cell 0) (fun PE hPE => ?_)
  have K : ∀ (m g : Nat) (W2 : World), Blk W2 w.heap.size 24 #[.string (bs s), .int .i64 id, .int .i64 n, .slice A k c] → Blk W2 g 54 #[.bool i, .bool nn, .bool b] → Below w.heap.size w W2 →
      PE ⟨#[.agg #[.string (bs s), .int .i64 id, .int .i64 n, .slice A k c], .pointer (some ⟨w.heap.size, 0, none⟩), .int .i64 0, .pointer (some ⟨g, 0, none⟩), undef, .tuple #[.agg #[.bool i, .bool nn, .bool b], .bool is], .map (some m), .pointer (some ⟨w.heap.size, 0, none⟩), .string (bs s), .tuple #[.agg #[.bool i, .bool nn, .bool b], .bool is], .agg #[.bool i, .bool nn, .bool b], .bool is,
        undef, undef, undef, undef, undef, undef, undef, undef, undef, undef, undef, undef, undef, undef, undef, undef, undef, undef, undef, undef, undef, undef, undef, undef, undef, undef, undef, undef, undef, undef, undef, undef, undef, undef, undef], []⟩ W2 := by
    intro m g W2 hX hG hb
    refine hPE _ _ ?_
    simp only [List.drop_succ_cons, List.drop_zero]
    clear hPE PE
    have x0 := hX.cell 0
    have x1 := hX.cell 1
    have x2 := hX.cell 2
    have x3 := hX.cell 3
    have y0 := hG.cell 0
    have y1 := hG.cell 1
    have y2 := hG.cell 2
    have HB := Lib.hid hb
    clear hX hG hb HX Hlook HB0 HW0 Hlt
    generalize w.heap.size = B at x0 x1 x2 x3
    have C1 := Lib.hid (fun W => lines_number id i W)
    have C2 := Lib.hid (fun W => lines_number n nn W)
    cases is with
    | false =>
      have hk1 := (okP_none (id := id) (n := n) (k := k) (HS0.out rfl))
      have Hr : Hid (r = 2) := Lib.hid (by rw [← HR.out, hk1]; rfl)
      clear hk1
      go_wp2_with (first
        | (go_at_call 34; refine (C1.out _).mono ?_; rintro e w' ⟨rfl, rfl⟩; clear C1)
        | (go_at_call 34; refine (C2.out _).mono ?_; rintro e w' ⟨rfl, rfl⟩; clear C2))
      go_ret
      rw [Hr.out]
      exact ⟨rfl, HB.out⟩
    | true =>
      have N1 := numOk_iff id i
      have N2 := numOk_iff n nn
      generalize numOk id i = r1 at C1 N1
      generalize numOk n nn = r2 at C2 N2
      have HN1 := Lib.hid N1
      have HN2 := Lib.hid N2
      clear N1 N2
      cases r1 with
      | false =>
        have hk1 := (okP_not (id := id) (n := n) (k := k) (HS1.out rfl) (fun h => Bool.false_ne_true (HN1.out.2 h.1)))
        have Hr : Hid (r = 2) := Lib.hid (by rw [← HR.out, hk1]; rfl)
        clear hk1
        go_wp2_with (first
          | (go_at_call 34; refine (C1.out _).mono ?_; rintro e w' ⟨rfl, rfl⟩; clear C1)
          | (go_at_call 34; refine (C2.out _).mono ?_; rintro e w' ⟨rfl, rfl⟩; clear C2))
        go_ret
        rw [Hr.out]
        exact ⟨rfl, HB.out⟩
      | true =>
        cases r2 with
        | false =>
          have hk1 := (okP_not (id := id) (n := n) (k := k) (HS1.out rfl) (fun h => Bool.false_ne_true (HN2.out.2 h.2.1)))
          have Hr : Hid (r = 2) := Lib.hid (by rw [← HR.out, hk1]; rfl)
          clear hk1
          go_wp2_with (first
            | (go_at_call 34; refine (C1.out _).mono ?_; rintro e w' ⟨rfl, rfl⟩; clear C1)
            | (go_at_call 34; refine (C2.out _).mono ?_; rintro e w' ⟨rfl, rfl⟩; clear C2))
          go_ret
          rw [Hr.out]
          exact ⟨rfl, HB.out⟩
        | true =>
          by_cases h3 : 1000 < k
          · have h3i : 1000 < (k : Int) := by omega
            have hk1 := (okP_not (id := id) (n := n) (k := k) (HS1.out rfl) (fun h => by have := h.2.2.1; omega))
            have Hr : Hid (r = 2) := Lib.hid (by rw [← HR.out, hk1]; rfl)
            clear hk1
            go_wp2_with (first
              | (go_at_call 34; refine (C1.out _).mono ?_; rintro e w' ⟨rfl, rfl⟩; clear C1)
              | (go_at_call 34; refine (C2.out _).mono ?_; rintro e w' ⟨rfl, rfl⟩; clear C2))
            go_ret
            rw [Hr.out]
            exact ⟨rfl, HB.out⟩
          have h3i : ¬ 1000 < (k : Int) := by omega
          by_cases h4 : k = 0
          · have h4i : ¬ 0 < (k : Int) := by omega
            have hh := Lib.hid (show (id = 0 ∨ (i = true ∧ 0 < id ∧ id ≤ 9999999999)) ∧ (n = 0 ∨ (nn = true ∧ 0 < n ∧ n ≤ 9999999999)) ∧ k ≤ 1000 ∧ (k = 0 ∨ b = true) from ⟨HN1.out.1 rfl, HN2.out.1 rfl, by omega, Or.inl h4⟩)
            clear h4
            have hk1 := ((okP_some (id := id) (n := n) (k := k) (HS1.out rfl)).2 (by exact hh.out))
            have Hr : Hid (r = 0) := Lib.hid (by rw [← HR.out, hk1]; rfl)
            clear hk1
            go_wp2_with (first
              | (go_at_call 34; refine (C1.out _).mono ?_; rintro e w' ⟨rfl, rfl⟩; clear C1)
              | (go_at_call 34; refine (C2.out _).mono ?_; rintro e w' ⟨rfl, rfl⟩; clear C2))
            go_ret
            rw [Hr.out]
            exact ⟨rfl, HB.out⟩
          have h4i : 0 < (k : Int) := by omega
          cases b with
          | false =>
            have hk1 := (okP_not (id := id) (n := n) (k := k) (HS1.out rfl) (fun h => by have := h.2.2.2; simp at this; omega))
            have Hr : Hid (r = 2) := Lib.hid (by rw [← HR.out, hk1]; rfl)
            clear hk1
            go_wp2_with (first
              | (go_at_call 34; refine (C1.out _).mono ?_; rintro e w' ⟨rfl, rfl⟩; clear C1)
              | (go_at_call 34; refine (C2.out _).mono ?_; rintro e w' ⟨rfl, rfl⟩; clear C2))
            go_ret
            rw [Hr.out]
            exact ⟨rfl, HB.out⟩
          | true =>
            have hh := Lib.hid (show (id = 0 ∨ (i = true ∧ 0 < id ∧ id ≤ 9999999999)) ∧ (n = 0 ∨ (nn = true ∧ 0 < n ∧ n ≤ 9999999999)) ∧ k ≤ 1000 ∧ (k = 0 ∨ true = true) from ⟨HN1.out.1 rfl, HN2.out.1 rfl, by omega, Or.inr rfl⟩)
            have hk1 := ((okP_some (id := id) (n := n) (k := k) (HS1.out rfl)).2 (by exact hh.out))
            have Hr : Hid (r = 0) := Lib.hid (by rw [← HR.out, hk1]; rfl)
            clear hk1
            go_wp2_with (first
              | (go_at_call 34; refine (C1.out _).mono ?_; rintro e w' ⟨rfl, rfl⟩; clear C1)
              | (go_at_call 34; refine (C2.out _).mono ?_; rintro e w' ⟨rfl, rfl⟩; clear C2))
            go_ret
            rw [Hr.out]
            exact ⟨rfl, HB.out⟩
  refine tree_take (v := ?_) rfl (by rfl) ?_ ?_
  rotate_left
  · intro _ hSw; (try dsimp only at hSw); go_simp; (try with_reducible rfl)
  simp only [List.setIfInBounds_toArray, List.set_cons_zero, List.set_cons_succ]
  refine tree_take (v := ?_) rfl (by rfl) ?_ ?_
  rotate_left
  · intro _ hSw; (try dsimp only at hSw); go_simp; (try with_reducible rfl)
  simp only [List.setIfInBounds_toArray, List.set_cons_zero, List.set_cons_succ]
  refine ⟨?_, ?_⟩
  · refine tree_call rfl (by rfl) (by first | (go_simp; done) | (go_simp; rfl)) (lines_words' _) ?_
    rintro e w1 ⟨m, rfl, hm, hb1⟩
    have hX1 := HX.out.drew'.below hb1 Hlt.out
    refine ⟨_, rfl, fun w' => w'.cell? ⟨w.heap.size, 0, none⟩ = some (.string (bs s)) ∧ w'.heap[m]? = some (.map entsE 9), fun _ h => h.1, ⟨hX1.cell 0, hm⟩, ?_⟩
    simp only [List.setIfInBounds_toArray, List.set_cons_zero, List.set_cons_succ]
    refine tree_take (v := ?_) rfl (by rfl) ?_ ?_
    rotate_left
    · intro _ hSw; (try dsimp only at hSw); have hlk := Hlook.out _ m hSw.2; go_simp; (try with_reducible rfl)
    simp only [List.setIfInBounds_toArray, List.set_cons_zero, List.set_cons_succ]
    refine tree_take (v := ?_) rfl (by rfl) ?_ ?_
    rotate_left
    · intro _ hSw; (try dsimp only at hSw); go_simp; (try with_reducible rfl)
    simp only [List.setIfInBounds_toArray, List.set_cons_zero, List.set_cons_succ]
    refine tree_take (v := ?_) rfl (by rfl) ?_ ?_
    rotate_left
    · intro _ hSw; (try dsimp only at hSw); go_simp; (try with_reducible rfl)
    simp only [List.setIfInBounds_toArray, List.set_cons_zero, List.set_cons_succ]
    refine tree_take (v := ?_) rfl (by rfl) ?_ ?_
    rotate_left
    · intro _ hSw; (try dsimp only at hSw); go_simp; (try with_reducible rfl)
    simp only [List.setIfInBounds_toArray, List.set_cons_zero, List.set_cons_succ]
    refine tree_value (v := ?_) (w' := ?_) rfl (by rfl) ?_ ?_ ?_
    rotate_left 2
    · go_simp; (try (constructor <;> with_reducible rfl))
    · exact ⟨(hX1.alloc _).cell 0, (Below.heap_alloc w1 _ m (heap_lt hm)).trans hm⟩
    simp only [List.setIfInBounds_toArray, List.set_cons_zero, List.set_cons_succ]
    refine tree_skip _ (w' := ?_) rfl (by rfl) ?_ ?_ ?_
    rotate_left 1
    · go_simp; (first | (with_reducible rfl) | (constructor <;> with_reducible rfl) | skip)
    · exact ⟨(hX1.alloc _).cell 0, (Below.heap_alloc w1 _ m (heap_lt hm)).trans hm⟩
    exact K m w1.heap.size _ (hX1.alloc _) (Blk.new w1 54 _) ((HB0.out.trans (hb1.mono (by have := HB0.out.size; exact this))).alloc (by have h1 := HB0.out.size; have h2 := hb1.size; exact Nat.le_trans h1 h2) _)
  · skip
    refine tree_value (v := ?_) (w' := ?_) rfl (by rfl) ?_ ?_ ?_
    rotate_left 2
    · go_simp; (try (constructor <;> with_reducible rfl))
    · exact (HX.out.drew'.alloc _).cell 0
    simp only [List.setIfInBounds_toArray, List.set_cons_zero, List.set_cons_succ]
    refine tree_call rfl (by rfl) (by first | (go_simp; done) | (go_simp; rfl)) (lines_words' _) ?_
    rintro e w1 ⟨m, rfl, hm, hb1⟩
    have hX1 := (HX.out.drew'.alloc (.cells #[.bool false, .bool false, .bool false] 54)).below hb1 (Nat.lt_of_lt_of_eq (Nat.lt_succ_of_lt Hlt.out) (World.size_alloc w0 _).symm)
    have hG1 := (Blk.new w0.drew 54 #[.bool false, .bool false, .bool false]).below hb1 (Nat.lt_of_lt_of_eq (Nat.lt_succ_self _) (World.size_alloc w0 _).symm)
    refine ⟨_, rfl, fun w' => w'.cell? ⟨w.heap.size, 0, none⟩ = some (.string (bs s)) ∧ w'.heap[m]? = some (.map entsE 9), fun _ h => h.1, ⟨hX1.cell 0, hm⟩, ?_⟩
    simp only [List.setIfInBounds_toArray, List.set_cons_zero, List.set_cons_succ]
    refine tree_take (v := ?_) rfl (by rfl) ?_ ?_
    rotate_left
    · intro _ hSw; (try dsimp only at hSw); have hlk := Hlook.out _ m hSw.2; go_simp; (try with_reducible rfl)
    simp only [List.setIfInBounds_toArray, List.set_cons_zero, List.set_cons_succ]
    refine tree_take (v := ?_) rfl (by rfl) ?_ ?_
    rotate_left
    · intro _ hSw; (try dsimp only at hSw); go_simp; (try with_reducible rfl)
    simp only [List.setIfInBounds_toArray, List.set_cons_zero, List.set_cons_succ]
    refine tree_take (v := ?_) rfl (by rfl) ?_ ?_
    rotate_left
    · intro _ hSw; (try dsimp only at hSw); go_simp; (try with_reducible rfl)
    simp only [List.setIfInBounds_toArray, List.set_cons_zero, List.set_cons_succ]
    refine tree_take (v := ?_) rfl (by rfl) ?_ ?_
    rotate_left
    · intro _ hSw; (try dsimp only at hSw); go_simp; (try with_reducible rfl)
    simp only [List.setIfInBounds_toArray, List.set_cons_zero, List.set_cons_succ]
    have g0 := hG1.cell 0
    have g1 := hG1.cell 1
    have g2 := hG1.cell 2
    have f0 := hG1.frozen 0
    have f1 := hG1.frozen 1
    have f2 := hG1.frozen 2
    simp only [World.size_drew] at g0 g1 g2 f0 f1 f2
    have hmg : m ≠ w0.heap.size := map_ne hG1 hm
    have hxg : w.heap.size ≠ w0.heap.size := Nat.ne_of_lt Hlt.out
    have hX3 := ((hX1.far (p := ⟨w0.heap.size, 0, none⟩) hxg (.bool i)).far (p := ⟨w0.heap.size, 1, none⟩) hxg (.bool nn)).far (p := ⟨w0.heap.size, 2, none⟩) hxg (.bool b)
    have hG3 := ((hG1.set_ 0 (.bool i)).set_ 1 (.bool nn)).set_ 2 (.bool b)
    have hle : w.heap.size ≤ w0.heap.size := Nat.le_of_lt Hlt.out
    have hbW := HB0.out.alloc (by exact hle) (.cells #[.bool false, .bool false, .bool false] 54)
    have hb3 := (((hbW.trans (hb1.mono (Nat.le_trans hle (by rw [World.size_drew, World.size_alloc]; exact Nat.le_succ _)))).setCell (p := ⟨w0.heap.size, 0, none⟩) hle (.bool i)).setCell (p := ⟨w0.heap.size, 1, none⟩) hle (.bool nn)).setCell (p := ⟨w0.heap.size, 2, none⟩) hle (.bool b)
    refine tree_skip _ (w' := ?_) rfl (by rfl) ?_ ?_ ?_
    rotate_left 1
    · go_simp; (first | (with_reducible rfl) | (constructor <;> with_reducible rfl) | skip)
    · refine ⟨hX3.cell 0, ?_⟩
      rw [Below.heap_setCell _ _ _ _ hmg, Below.heap_setCell _ _ _ _ hmg, Below.heap_setCell _ _ _ _ hmg]
      exact hm
    exact K m w0.heap.size _ hX3 hG3 hb3
end Go.Proofs.YthcbidbhkikhmaaDoor
