/- LinesWrites: the walk. -/
import Derived.Test.YthcbidbhkikhmaaDoorLaws31
namespace Go.Proofs.YthcbidbhkikhmaaDoor
open Go Go.RowKit
theorem Sl.far {w : World} {A : Option Addr} {xs : List Value} (h : Sl w A xs) {p : Addr} (hne : ∀ ad, A = some ad → ad.block ≠ p.block) (u : Value) : Sl (w.setCell p u) A xs := fun k v hk => by
  obtain ⟨ad, rfl, hl, hc⟩ := h k v hk
  refine ⟨ad, rfl, by simpa [World.setCell] using hl, ?_⟩
  rw [World.cell?_of_block (Below.heap_setCell w p u (ad.add k).block (by rw [addr_add_block]; exact hne ad rfl))]
  exact hc
set_option maxHeartbeats 400000 in
theorem kit_LentBytes2 (A : Option Addr) (n c : Nat) (l : List UInt8) (w : World) (hr : Sl w A (l.map byteV)) (hn : l.length = n) (hsz : n ≤ 2 ^ 40) :
   Calls Tryd.prog 10 #[.slice A n c] w fun e w' => ∃ B d, e = .returned (.slice B n d) ∧ Sl w' B ((l ++ [201, 202, 203, 204]).map byteV) ∧ n + 4 ≤ d ∧ d ≤ 9223372036854775807 ∧ (∀ ad, B = some ad → w.heap.size ≤ ad.block) ∧ Below w.heap.size w w' := by
  have Hn := Lib.hid hn
  clear hn
  have tok : True := trivial
  go_enter Tryd.func10, Tryd.ntmps10
  have ho0 : (w.alloc (.cells #[] 5)).ownsRow w.heap.size 5 1 (.slice (some ⟨w.heap.size, 0, none⟩) 0 0) 0 [] := World.ownsRow_lit w #[] 0 (Nat.le_refl _) (by decide) rfl
  have hr0 := hr.alloc (.cells #[] 5)
  have Ho0 := Lib.hid ho0; have Hr0 := Lib.hid hr0; clear ho0 hr0
  go_wp2_with (first
    | (at_builtin; have _t := tok; refine wpList_app etByte rfl rfl rfl Ho0.out rfl (by simp [Hn.out]) Hr0.out (byteV_one _) (by omega) (by simp) ?_; clear tok; intro v1 w1 ho1 hg1 _; rw [Nat.zero_add, List.nil_append] at ho1; have Ho1 := Lib.hid ho1; clear ho1)
    | (at_builtin; refine wpList_app etByte rfl rfl rfl (Ho1.out.alloc _) rfl (m := 4) (news := [201, 202, 203, 204].map byteV) rfl (Blk.sl (Blk.new w1 5 _) 0) (byteV_one _) (by omega) (by have := hg1.size; simp at this ⊢; omega) ?_; intro v2 w2 ho2 hg2 _; obtain ⟨g, cap, rfl, hcap, hcap2, hbg⟩ := own_pos ho2 (by omega); have Ho2 := Lib.hid ho2; clear ho2; unfold maxLen at hcap2))
  go_ret
  refine ⟨some ⟨g, 0, none⟩, cap, rfl, ?_, hcap, hcap2, (fun ad e => by cases e; exact hbg), ?_⟩
  · rw [List.map_append]; exact own_sl' Ho2.out
  · have hb1 := below_app ((Below.refl w.heap.size w).alloc (Nat.le_refl _) (.cells #[] 5)) Ho0.out hg1 (by simp) (Nat.le_refl _)
    exact below_app (hb1.alloc hb1.size _) (Ho1.out.alloc _) hg2 (by have := hb1.size; simp; omega) (Nat.le_refl _)
def LWr (w : World) (s : List UInt8) (id n : Int) (A B : Option Addr) (k c d : Nat) (l : List UInt8) (W : World) : Prop :=
  Blk W w.heap.size 24 #[.string (bs s), .int .i64 id, .int .i64 n, .slice A k c] ∧ Blk W (w.heap.size + 1) 24 #[.string (bs s), .int .i64 id, .int .i64 n, .slice B k d] ∧
    Sl W A (l.map byteV) ∧ Sl W B ((l ++ [201, 202, 203, 204]).map byteV) ∧ Tb W ∧ Below w.heap.size w W
theorem LWr.stay {w : World} {s : List UInt8} {id n : Int} {A B : Option Addr} {k c d : Nat} {l : List UInt8} {W W' : World} (h : LWr w s id n A B k c d l W) (hb : Below W.heap.size W W') : LWr w s id n A B k c d l W' :=
  ⟨h.1.below hb h.1.lt, h.2.1.below hb h.2.1.lt, h.2.2.1.below hb, h.2.2.2.1.below hb, h.2.2.2.2.1.below hb, h.2.2.2.2.2.trans (hb.mono h.2.2.2.2.2.size)⟩
theorem LWr.cells {w : World} {s : List UInt8} {id n : Int} {A B : Option Addr} {k c d : Nat} {l : List UInt8} {W : World} (h : LWr w s id n A B k c d l W) :
    (W.cell? ⟨w.heap.size, 0, none⟩ = some (.string (bs s)) ∧ W.cell? ⟨w.heap.size, 1, none⟩ = some (.int .i64 id) ∧ W.cell? ⟨w.heap.size, 2, none⟩ = some (.int .i64 n) ∧ W.cell? ⟨w.heap.size, 3, none⟩ = some (.slice A k c)) ∧
    (W.cell? ⟨w.heap.size + 1, 0, none⟩ = some (.string (bs s)) ∧ W.cell? ⟨w.heap.size + 1, 1, none⟩ = some (.int .i64 id) ∧ W.cell? ⟨w.heap.size + 1, 2, none⟩ = some (.int .i64 n) ∧ W.cell? ⟨w.heap.size + 1, 3, none⟩ = some (.slice B k d)) :=
  ⟨⟨h.1.cell 0, h.1.cell 1, h.1.cell 2, h.1.cell 3⟩, ⟨h.2.1.cell 0, h.2.1.cell 1, h.2.1.cell 2, h.2.1.cell 3⟩⟩
set_option maxRecDepth 100000 in
set_option maxHeartbeats 4000000 in
theorem law_LinesWrites (s : List UInt8) (id n : Int) (A : Option Addr) (k c : Nat) (l : List UInt8) (w : World) (hT : Tb w) (hA : Sl w A (l.map byteV)) (hl : l.length = k) :
    Calls Tryd.prog 3 #[.agg #[.string (bs s), .int .i64 id, .int .i64 n, .slice A k c]] w fun e w' => e = .returned (.bool true) ∧ Below w.heap.size w w' := by
  have HB0 := Lib.hid (show Below w.heap.size w (w.alloc (.cells #[.string (bs s), .int .i64 id, .int .i64 n, .slice A k c] 24)) from (Below.refl _ _).alloc (Nat.le_refl _) _)
  by_cases hk : 1100 < k
  · have CA := Lib.hid (law_awake (w.alloc (.cells #[.string (bs s), .int .i64 id, .int .i64 n, .slice A k c] 24)) (hT.below HB0.out))
    clear hA hl hT
    go_enter Tryd.func3, Tryd.ntmps3
    go_wp2_with (go_at_call 9; refine CA.out.mono ?_; rintro e w1 ⟨rfl, hb1⟩; have HB1 := Lib.hid (HB0.out.trans (hb1.mono HB0.out.size)); clear hb1)
    go_ret
    exact ⟨rfl, HB1.out⟩
  by_cases hs : 100 < s.length
  · have CA := Lib.hid (law_awake (w.alloc (.cells #[.string (bs s), .int .i64 id, .int .i64 n, .slice A k c] 24)) (hT.below HB0.out))
    clear hA hl hT
    go_enter Tryd.func3, Tryd.ntmps3
    go_wp2_with (go_at_call 9; refine CA.out.mono ?_; rintro e w1 ⟨rfl, hb1⟩; have HB1 := Lib.hid (HB0.out.trans (hb1.mono HB0.out.size)); clear hb1)
    go_ret
    exact ⟨rfl, HB1.out⟩
  have HL := Lib.hid hl
  have X1 := Lib.hid ((Blk.new w 24 #[.string (bs s), .int .i64 id, .int .i64 n, .slice A k c]).alloc (.cells #[.string (bs s), .int .i64 id, .int .i64 n, .slice A k c] 24))
  have X2 := Lib.hid ((Blk.new (w.alloc (.cells #[.string (bs s), .int .i64 id, .int .i64 n, .slice A k c] 24)) 24 #[.string (bs s), .int .i64 id, .int .i64 n, .slice A k c]).at_eq (World.size_alloc w _))
  have XB := Lib.hid (HB0.out.alloc (by simp) (.cells #[.string (bs s), .int .i64 id, .int .i64 n, .slice A k c] 24))
  have XA := Lib.hid ((hA.alloc (.cells #[.string (bs s), .int .i64 id, .int .i64 n, .slice A k c] 24)).alloc (.cells #[.string (bs s), .int .i64 id, .int .i64 n, .slice A k c] 24))
  have HTw := Lib.hid hT
  have CL := Lib.hid (kit_LentBytes2 A k c l _ XA.out hl (by omega))
  obtain ⟨x, y, hxy⟩ : ∃ x y, lineR s id n l = (x, y) := ⟨_, _, rfl⟩
  have HXY := Lib.hid hxy
  obtain ⟨r, hr⟩ : ∃ r : Int, (if okP s id n k = true then (0 : Int) else 2) = r := ⟨_, rfl⟩
  have CC1 : Hid (∀ (D : Option Addr) (m : Nat) W, Calls Tryd.prog 13 #[.agg #[.string (bs s), .int .i64 id, .int .i64 n, .slice D k m]] W fun e w' => e = .returned (.int .i64 r) ∧ Below W.heap.size W w') := Lib.hid (fun D m W => by rw [← hr]; exact lines_check s id n D k m W)
  have CC2 : Hid (∀ (D : Option Addr) (m : Nat) W, Calls Tryd.prog 14 #[.agg #[.string (bs s), .int .i64 id, .int .i64 n, .slice D k m]] W fun e w' => e = .returned (.int .i64 r) ∧ Below W.heap.size W w') := Lib.hid (fun D m W => by rw [← hr]; exact ref31_check s id n D k m W (by omega))
  clear hr
  have tok : True := trivial
  have HAw := Lib.hid hA
  clear hA hT hl hxy
  go_enter Tryd.func3, Tryd.ntmps3
  go_wp2_with (first
    | (go_at_call 10; refine CL.out.mono ?_; rintro e w1 ⟨B, d, rfl, hS1, hd1, hd2, hf1, hb1⟩; have Y2 := X2.out.below hb1 X2.out.lt; have YB := (XB.out.trans (hb1.mono XB.out.size)).setCell (p := ⟨w.heap.size + 1, 3, none⟩) (Nat.le_succ _) (.slice B k d); have HS2 := Lib.hid (show LWr w s id n A B k c d l (w1.setCell ⟨w.heap.size + 1, 3, none⟩ (.slice B k d)) from ⟨(X1.out.below hb1 X1.out.lt).far (Nat.ne_of_lt (Nat.lt_succ_self _)) _, Y2.set_ 3 _, HAw.out.below YB, hS1.far (fun ad e => Nat.ne_of_gt (Nat.lt_of_lt_of_le X2.out.lt (hf1 ad e))) _, HTw.out.below YB, YB⟩); have c20 := Y2.cell 0; have c21 := Y2.cell 1; have c22 := Y2.cell 2; have c23 := Y2.cell 3; have f23 := Y2.frozen 3; clear CL hb1 XA Y2 YB X1 X2 XB)
    | (go_at_call 11; have CP := lines_line s id n B k d l _ HS2.out.2.2.2.2.1 (by have h4 := HS2.out.2.2.2.1.take l.length; rw [List.map_append, List.take_left' (by simp)] at h4; exact h4) HL.out; rw [HXY.out] at CP; refine CP.mono ?_; rintro e w2 ⟨rfl, hb2⟩; have HS3 := Lib.hid (HS2.out.stay hb2); clear c20 c21 c22 c23 f23 CP hb2 HS2; obtain ⟨⟨c10, c11, c12, c13⟩, c20, c21, c22, c23⟩ := HS3.out.cells)
    | (go_at_call 12; have CP := ref31_line s id n A k c l _ HS3.out.2.2.1 HL.out (by omega); rw [HXY.out] at CP; refine CP.mono ?_; rintro e w3 ⟨rfl, hb3⟩; have HS4 := Lib.hid (HS3.out.stay hb3); clear c10 c11 c12 c13 c20 c21 c22 c23 CP hb3 HS3; obtain ⟨⟨c10, c11, c12, c13⟩, c20, c21, c22, c23⟩ := HS4.out.cells))
  clear c10 c11 c12 c13 c20 c21 c22 c23
  refine wp_region_plan2 (LWr w s id n A B k c d l) 20 [(0, true), (1, true), (2, true), (3, true), (4, true), (5, true), (6, true), (7, true), (8, true), (9, true), (11, true), (10, false), (12, false), (13, true), (14, true), (15, true), (16, true), (17, true), (18, true), (19, true)] (by kernel_rfl) (by kernel_rfl) (fun _ _ d _ _ h => by cases d <;> exact h) (by decide) (by simp only [List.map_cons, List.map_nil, Array.getD_eq_getD_getElem?, List.getElem?_toArray, List.getElem?_cons_zero, List.getElem?_cons_succ, Option.getD_some]; rfl) (by simp only [List.map_cons, List.map_nil]; rfl) (HS4.out.stay (Below.refl _ _).drew) (fun PE hPE => ?_)
  refine plan_take (v := ?_) rfl (by rfl) ?_ ?_
  rotate_left
  · intro _ hSw; (try dsimp only at hSw); obtain ⟨⟨c10, c11, c12, c13⟩, c20, c21, c22, c23⟩ := hSw.cells; go_simp; (try with_reducible rfl)
  simp only [List.setIfInBounds_toArray, List.set_cons_zero, List.set_cons_succ]
  refine plan_take (v := ?_) rfl (by rfl) ?_ ?_
  rotate_left
  · intro _ hSw; (try dsimp only at hSw); obtain ⟨⟨c10, c11, c12, c13⟩, c20, c21, c22, c23⟩ := hSw.cells; go_simp; (try with_reducible rfl)
  simp only [List.setIfInBounds_toArray, List.set_cons_zero, List.set_cons_succ]
  refine plan_take (v := ?_) rfl (by rfl) ?_ ?_
  rotate_left
  · intro _ hSw; (try dsimp only at hSw); obtain ⟨⟨c10, c11, c12, c13⟩, c20, c21, c22, c23⟩ := hSw.cells; go_simp; (try with_reducible rfl)
  simp only [List.setIfInBounds_toArray, List.set_cons_zero, List.set_cons_succ]
  refine plan_take (v := ?_) rfl (by rfl) ?_ ?_
  rotate_left
  · intro _ hSw; (try dsimp only at hSw); obtain ⟨⟨c10, c11, c12, c13⟩, c20, c21, c22, c23⟩ := hSw.cells; go_simp; (try with_reducible rfl)
  simp only [List.setIfInBounds_toArray, List.set_cons_zero, List.set_cons_succ]
  refine plan_take (v := ?_) rfl (by rfl) ?_ ?_
  rotate_left
  · intro _ hSw; (try dsimp only at hSw); obtain ⟨⟨c10, c11, c12, c13⟩, c20, c21, c22, c23⟩ := hSw.cells; go_simp; (try with_reducible rfl)
  simp only [List.setIfInBounds_toArray, List.set_cons_zero, List.set_cons_succ]
  refine plan_take (v := ?_) rfl (by rfl) ?_ ?_
  rotate_left
  · intro _ hSw; (try dsimp only at hSw); obtain ⟨⟨c10, c11, c12, c13⟩, c20, c21, c22, c23⟩ := hSw.cells; go_simp; (try with_reducible rfl)
  simp only [List.setIfInBounds_toArray, List.set_cons_zero, List.set_cons_succ]
  refine plan_take (v := ?_) rfl (by rfl) ?_ ?_
  rotate_left
  · intro _ hSw; (try dsimp only at hSw); obtain ⟨⟨c10, c11, c12, c13⟩, c20, c21, c22, c23⟩ := hSw.cells; go_simp; (try with_reducible rfl)
  simp only [List.setIfInBounds_toArray, List.set_cons_zero, List.set_cons_succ]
  refine plan_take (v := ?_) rfl (by rfl) ?_ ?_
  rotate_left
  · intro _ hSw; (try dsimp only at hSw); obtain ⟨⟨c10, c11, c12, c13⟩, c20, c21, c22, c23⟩ := hSw.cells; go_simp; (try with_reducible rfl)
  simp only [List.setIfInBounds_toArray, List.set_cons_zero, List.set_cons_succ]
  refine plan_take (v := ?_) rfl (by rfl) ?_ ?_
  rotate_left
  · intro _ hSw; (try dsimp only at hSw); obtain ⟨⟨c10, c11, c12, c13⟩, c20, c21, c22, c23⟩ := hSw.cells; go_simp; (try with_reducible rfl)
  simp only [List.setIfInBounds_toArray, List.set_cons_zero, List.set_cons_succ]
  refine plan_take (v := ?_) rfl (by rfl) ?_ ?_
  rotate_left
  · intro _ hSw; (try dsimp only at hSw); obtain ⟨⟨c10, c11, c12, c13⟩, c20, c21, c22, c23⟩ := hSw.cells; go_simp; (try with_reducible rfl)
  simp only [List.setIfInBounds_toArray, List.set_cons_zero, List.set_cons_succ]
  refine plan_take (v := ?_) rfl (by rfl) ?_ ?_
  rotate_left
  · intro _ hSw; (try dsimp only at hSw); obtain ⟨⟨c10, c11, c12, c13⟩, c20, c21, c22, c23⟩ := hSw.cells; go_simp; (try with_reducible rfl)
  simp only [List.setIfInBounds_toArray, List.set_cons_zero, List.set_cons_succ]
  refine plan_call rfl (by rfl) (by first | (go_simp; done) | (go_simp; rfl)) (CC1.out B d _) ?_
  rintro e w4 ⟨rfl, hb4⟩
  have HS5 := Lib.hid ((HS4.out.stay (Below.refl _ _).drew).stay hb4)
  refine ⟨_, rfl, HS5.out, ?_⟩
  simp only [List.setIfInBounds_toArray, List.set_cons_zero, List.set_cons_succ]
  refine plan_call rfl (by rfl) (by first | (go_simp; done) | (go_simp; rfl)) (CC2.out A c _) ?_
  rintro e w5 ⟨rfl, hb5⟩
  have HS6 := Lib.hid (HS5.out.stay hb5)
  refine ⟨_, rfl, HS6.out, ?_⟩
  simp only [List.setIfInBounds_toArray, List.set_cons_zero, List.set_cons_succ]
  refine plan_take (v := ?_) rfl (by rfl) ?_ ?_
  rotate_left
  · intro _ hSw; (try dsimp only at hSw); obtain ⟨⟨c10, c11, c12, c13⟩, c20, c21, c22, c23⟩ := hSw.cells; go_simp; (try with_reducible rfl)
  simp only [List.setIfInBounds_toArray, List.set_cons_zero, List.set_cons_succ]
  refine plan_take (v := ?_) rfl (by rfl) ?_ ?_
  rotate_left
  · intro _ hSw; (try dsimp only at hSw); obtain ⟨⟨c10, c11, c12, c13⟩, c20, c21, c22, c23⟩ := hSw.cells; go_simp; (try with_reducible rfl)
  simp only [List.setIfInBounds_toArray, List.set_cons_zero, List.set_cons_succ]
  refine plan_take (v := ?_) rfl (by rfl) ?_ ?_
  rotate_left
  · intro _ hSw; (try dsimp only at hSw); obtain ⟨⟨c10, c11, c12, c13⟩, c20, c21, c22, c23⟩ := hSw.cells; go_simp; (try with_reducible rfl)
  simp only [List.setIfInBounds_toArray, List.set_cons_zero, List.set_cons_succ]
  refine plan_take (v := ?_) rfl (by rfl) ?_ ?_
  rotate_left
  · intro _ hSw; (try dsimp only at hSw); obtain ⟨⟨c10, c11, c12, c13⟩, c20, c21, c22, c23⟩ := hSw.cells; go_simp; (try with_reducible rfl)
  simp only [List.setIfInBounds_toArray, List.set_cons_zero, List.set_cons_succ]
  refine plan_take (v := ?_) rfl (by rfl) ?_ ?_
  rotate_left
  · intro _ hSw; (try dsimp only at hSw); obtain ⟨⟨c10, c11, c12, c13⟩, c20, c21, c22, c23⟩ := hSw.cells; go_simp; (try with_reducible rfl)
  simp only [List.setIfInBounds_toArray, List.set_cons_zero, List.set_cons_succ]
  refine plan_take (v := ?_) rfl (by rfl) ?_ ?_
  rotate_left
  · intro _ hSw; (try dsimp only at hSw); obtain ⟨⟨c10, c11, c12, c13⟩, c20, c21, c22, c23⟩ := hSw.cells; go_simp; (try with_reducible rfl)
  simp only [List.setIfInBounds_toArray, List.set_cons_zero, List.set_cons_succ]
  refine plan_take (v := ?_) rfl (by rfl) ?_ ?_
  rotate_left
  · intro _ hSw; (try dsimp only at hSw); obtain ⟨⟨c10, c11, c12, c13⟩, c20, c21, c22, c23⟩ := hSw.cells; go_simp; (try with_reducible rfl)
  simp only [List.setIfInBounds_toArray, List.set_cons_zero, List.set_cons_succ]
  (refine hPE _ _ ?_; simp only [List.drop_succ_cons, List.drop_zero]; clear hPE PE)
  have CK := Lib.hid (kit_KeptBytes B A k d c l _ HS6.out.2.2.2.1 HS6.out.2.2.1 HL.out hd1 hd2)
  go_wp2_with (first
    | (go_at_call 15; refine CK.out.mono ?_; rintro e w6 ⟨rfl, hb6⟩; have HS7 := Lib.hid (HS6.out.stay hb6); clear CK hb6)
    | (go_at_call 9; refine (law_awake _ HS7.out.2.2.2.2.1).mono ?_; rintro e w7 ⟨rfl, hb7⟩; have HB8 := Lib.hid (HS7.out.stay hb7).2.2.2.2.2; clear hb7))
  go_ret
  exact ⟨rfl, HB8.out⟩
end Go.Proofs.YthcbidbhkikhmaaDoor
