/- KindT -/
import Derived.Test.YtcojnigkgbmbmaaGreatDoorK13
namespace Go.Proofs.YtcojnigkgbmbmaaGreatDoor
open Go Go.RowKit
attribute [local go_sem] Oper.semAt_some
theorem kindN_len : kindN.length = 10 := by kernel_rfl
theorem pt_put {w : World} {base T D many : Nat} {N : List Nd} {Dt : DataW Value} {o o' : Obj} (h : PTree w base T N Dt many) (hD : w.heap[D]? = some o) (hm : ∀ es c, o ≠ .map es c) (hc : o.isCells = false) : PTree (w.putObj D o') base T N Dt many := by
  obtain ⟨v, mb, h1, h2, h3, h4, h5⟩ := h
  have hg := grownBy_putObj' w D o'
  have hr : ∀ r, some D = some r → ∃ o : Obj, w.heap[r]? = some o ∧ o.isCells = false := fun r e => by cases e; exact ⟨o, hD, hc⟩
  refine ⟨v, mb, blk_grown' h1 hg hr, own_grown' h2 hg hr, ?_, h4, h5⟩
  obtain ⟨es, clock, hh, r⟩ := h3
  refine ⟨es, clock, (World.putObj_heap_other (fun e => ?_)).trans hh, r⟩
  rw [e, hD] at hh
  cases hh
  exact hm _ _ rfl
theorem kindC_snoc (j : Nat) (h : j < 10) : kindC.take (j + 1) = kindC.take j ++ [kindC.getD j []] := by revert j; decide +kernel
theorem kindN_snoc (j : Nat) (h : j < 10) : kindN.take (j + 1) = kindN.take j ++ [(j : Int) + 1] := by revert j; decide +kernel
set_option maxRecDepth 100000 in
set_option maxHeartbeats 4000000 in
theorem kind_tree (w : World) : Calls Tryz.prog 89 #[] w (TreePost kindC kindN w) := by
  refine (callsIn_wide (n := 5)).1 ?_
  refine callsIn_of_wp_marks Tryz.func89 rfl trivial ?_ rfl
  simp only [Tryz.ntmps89, List.size_toArray, List.length_cons, List.length_nil, Nat.reduceAdd, Nat.reduceSub, Array.replicate_succ, Array.replicate_zero, List.push_toArray, List.append_toArray, List.nil_append, List.cons_append]
  refine wpIn_wide.2 ?_
  go_wp2_with (go_at_call 88; refine (kind_all _).mono ?_; rintro e w' ⟨rfl, rfl⟩)
  refine (wpIn_wide (n := 5)).1 ?_
  refine wp_uF (α := Nat) (enc := encK) (I := ICons w (fun _ (v : Value × Value) => trP v.1 ∧ trP v.2) (fun _ v => trL w.heap.size v.1 v.2) (fun pre v => trR w.heap.size kindC kindN pre.length v.1 v.2)) (I2 := ICons w (fun _ (v : Value × Value) => trP v.1 ∧ trP v.2) (fun _ v => trL w.heap.size v.1 v.2) (fun pre v => trR w.heap.size kindC kindN pre.length v.1 v.2)) (S := fun xs => xs = List.range 10) (Sp := fun pre => pre <+: List.range 10)
    rfl (by decide) (gf := 123) (lb := #[]) rfl trivial (enters_of Tryz.func123 (by kernel_rfl) rfl)
    (kall_seq 4 (by decide) _ ic_below) (fun _ => rfl)
    (fun _ _ _ => False)
    (fun pre x g W => ICons w (fun _ (v : Value × Value) => trP v.1 ∧ trP v.2) (fun _ v => (g, 117, (rowK x).toArray) :: trL w.heap.size v.1 v.2) (fun pre v => trR w.heap.size kindC kindN pre.length v.1 v.2) pre W)
    (own_ic (by simp; omega) _ _ _) (own_ic (by simp; omega) _ _ _) (fun _ _ _ _ _ h _ _ => h) (fun x g => own_ic (by simp; omega) _ _ _) ?start ?round ?done ?stop
  case start =>
    refine ⟨⟨(.slice none 0 0, .slice none 0 0), ⟨⟨_, _, _, rfl⟩, ⟨_, _, _, rfl⟩⟩, ?_, ?_, ?_⟩⟩
    · exact ((Below.refl _ _).alloc (Nat.le_refl _) _).alloc (by simp) _
    · refine CellsAt.cons ?_ (CellsAt.cons ?_ (cellsAt_nil _))
      all_goals (repeat (first | (refine blkAt (Blk.new _ _ _) ?_; simp [World.size_alloc]; done) | refine Blk.alloc ?_ _))
    · exact RowsAt.cons (World.ownsRow_nil _ _ _ _) (RowsAt.cons (World.ownsRow_nil _ _ _ _) (rowsAt_nil _))
  case round =>
    apply Exists.intro
    refine And.intro ?_ ?_
    · rintro lp pre x W ⟨⟨u, hu, hc⟩⟩ hsp
      have HU := Lib.hid hu; have HC := Lib.hid hc
      clear hu hc
      rw [encK_eq]
      gi_wp2
      obtain ⟨g0, hg0⟩ : ∃ g0, W.heap.size = g0 := ⟨_, rfl⟩
      have hcc := cons_cell (cons_alloc HC.out (.cells (rowK x).toArray 117)) (blkAt (Blk.new W 117 (rowK x).toArray) hg0)
      rw [hg0]
      exact ⟨⟨g0, rfl, ⟨u, HU.out, hcc⟩⟩, kf_alloc (KeepsFrom.refl _ _) _⟩
    · rintro lp pre x g W ⟨⟨⟨v1, v2⟩, ⟨⟨A1, n1, c1, rfl⟩, ⟨A2, n2, c2, rfl⟩⟩, hc⟩⟩ hsp
      obtain ⟨hpr, hx, hxl⟩ := range_pre hsp
      unfold trL trR at hc
      dsimp only at hc
      have HC := Lib.hid hc; have HXL := Lib.hid hxl; have HX := Lib.hid hx
      have hl10 : pre.length ≤ 9 := by omega
      clear hc hpr hx hxl hsp
      obtain ⟨sc, hsc⟩ : ∃ sc, kindC.getD x [] = sc := ⟨_, rfl⟩
      gi_wp2_with fail
      refine wpIn_region_tree (fun w' => CellsAt [(g, 117, (rowK x).toArray), (w.heap.size, 89, #[.slice A1 n1 c1]), (w.heap.size + 1, 137, #[.slice A2 n2 c2])] w') 8 (.take 0 (.take 1 (.take 2 (.take 5 (.take 6 (.fork 3 (.fork 4 (.step 7 (.done)) 7 (.step 4 (.done))) 7 (.step 3 (.step 4 (.done))))))))) (by kernel_rfl) (by kernel_rfl) (by simp only [Pln.out, Array.getD_eq_getD_getElem?, List.getElem?_toArray, List.getElem?_cons_zero, List.getElem?_cons_succ, Option.getD_some]; rfl) (by simp only [List.map_cons, List.map_nil]; rfl) (HC.out.2.1) (fun PE hPE => ?_)
      refine tree_take (v := ?_) rfl (by rfl) ?_ ?_
      rotate_left
      · intro _ hSw; (try dsimp only at hSw); have z1 := hSw.tail.head.cell 0; have z2 := hSw.tail.tail.head.cell 0; have z3 : _ = some (Value.string (bs (kindC.getD x []))) := hSw.head.cell 0; go_simp; (try with_reducible rfl)
      simp only [List.setIfInBounds_toArray, List.set_cons_zero, List.set_cons_succ]
      refine tree_take (v := ?_) rfl (by rfl) ?_ ?_
      rotate_left
      · intro _ hSw; (try dsimp only at hSw); have z1 := hSw.tail.head.cell 0; have z2 := hSw.tail.tail.head.cell 0; have z3 : _ = some (Value.string (bs (kindC.getD x []))) := hSw.head.cell 0; go_simp; (try with_reducible rfl)
      simp only [List.setIfInBounds_toArray, List.set_cons_zero, List.set_cons_succ]
      refine tree_take (v := ?_) rfl (by rfl) ?_ ?_
      rotate_left
      · intro _ hSw; (try dsimp only at hSw); have z1 := hSw.tail.head.cell 0; have z2 := hSw.tail.tail.head.cell 0; have z3 : _ = some (Value.string (bs (kindC.getD x []))) := hSw.head.cell 0; go_simp; (try with_reducible rfl)
      simp only [List.setIfInBounds_toArray, List.set_cons_zero, List.set_cons_succ]
      refine tree_take (v := ?_) rfl (by rfl) ?_ ?_
      rotate_left
      · intro _ hSw; (try dsimp only at hSw); have z1 := hSw.tail.head.cell 0; have z2 := hSw.tail.tail.head.cell 0; have z3 : _ = some (Value.string (bs (kindC.getD x []))) := hSw.head.cell 0; go_simp; (try with_reducible rfl)
      simp only [List.setIfInBounds_toArray, List.set_cons_zero, List.set_cons_succ]
      refine tree_take (v := ?_) rfl (by rfl) ?_ ?_
      rotate_left
      · intro _ hSw; (try dsimp only at hSw); have z1 := hSw.tail.head.cell 0; have z2 := hSw.tail.tail.head.cell 0; have z3 : _ = some (Value.string (bs (kindC.getD x []))) := hSw.head.cell 0; go_simp; (try with_reducible rfl)
      simp only [List.setIfInBounds_toArray, List.set_cons_zero, List.set_cons_succ]
      have HW := Lib.hid (cons_drew HC.out)
      refine ⟨?_, ?_⟩
      · refine tree_value (v := ?_) (w' := ?_) rfl (by rfl) ?_ ?_ ?_
        rotate_left 2
        · go_simp; (try (constructor <;> with_reducible rfl))
        · exact (cons_alloc HW.out _).2.1
        refine ⟨?_, ?_⟩
        · refine tree_appB etStr rfl rfl rfl rfl (cons_alloc HW.out (.cells #[strV (kindC.getD x [])] 9)) rfl (Blk.new _ _ _) (m := 1) (news := [strV (kindC.getD x [])]) rfl (strV1 _) (by omega) ⟨Nat.le_refl _, (cons_alloc HW.out (.cells #[strV (kindC.getD x [])] 9)).1.size⟩ (by simp) (by simp) (fun v' W5 hc5 hb5 hk5 => ⟨hc5.2.1, ?_⟩)
          obtain ⟨A5, c5, e5, _⟩ := own_sl hc5.2.2.head
          dsimp only at e5
          subst e5
          refine tree_value (v := ?_) (w' := ?_) rfl (by rfl) ?_ ?_ ?_
          rotate_left 2
          · go_simp; (try (constructor <;> with_reducible rfl))
          · exact hc5.2.1.alloc _
          have HCf := Lib.hid (cons_alloc hc5 (.cells #[intV ((x : Int) + 1)] 3))
          have HB7 := Lib.hid (Blk.new W5 3 #[intV ((x : Int) + 1)])
          have HKF := Lib.hid (fun B => kf_alloc (kf_then' (kf_alloc (kf_drew (KeepsFrom.refl B W)) (.cells #[strV (kindC.getD x [])] 9)) (hk5 B)) (.cells #[intV ((x : Int) + 1)] 3))
          refine hPE _ _ ?_
          clear hPE PE
          simp only [List.drop_succ_cons, List.drop_zero, List.drop_nil]
          go_wp2_with (refine wpList_appB etInt rfl rfl rfl (cons_swap HCf.out) rfl HB7.out (m := 1) (news := [intV ((x : Int) + 1)]) rfl (intV1 _) (by omega) ⟨Nat.le_refl _, HCf.out.1.size⟩ (by simp) (by simp) ?_; intro v2 W9 hc9 hb9 hk9; obtain ⟨A8, c8, e8, _⟩ := own_sl hc9.2.2.head; dsimp only at e8; subst e8; have HC9 := Lib.hid (cons_drop hc9); have HK9 := Lib.hid (fun B => kf_then' (HKF.out B) (hk9 B)); have y1 := hc9.2.1.tail.head.cell 0; have y2 := hc9.2.1.tail.tail.head.cell 0; have yf1 := hc9.2.1.tail.head.frozen 0; have yf2 := hc9.2.1.tail.tail.head.frozen 0; clear hc9 hb9 hk9)
          refine ⟨rfl, ?_⟩
          gi_wp2_with fail
          have hrd := fun B => tree_round HC9.out HK9.out B (by rw [HX.out]; exact kindC_snoc _ (by omega)) (by rw [HX.out]; exact kindN_snoc _ (by omega)) rfl
          refine ⟨(hrd _).1, trivial, ⟨⟨(.slice A5 (pre.length + 1) c5, .slice A8 (pre.length + 1) c8), ⟨⟨_, _, _, rfl⟩, ⟨_, _, _, rfl⟩⟩, ?_⟩⟩⟩
          rw [List.length_append]
          exact (hrd 0).2
        · refine tree_value (v := ?_) (w' := ?_) rfl (by rfl) ?_ ?_ ?_
          rotate_left 2
          · go_simp; (try (constructor <;> with_reducible rfl))
          · exact ((cons_alloc HW.out (.cells #[strV (kindC.getD x [])] 9)).2.1).alloc _
          refine tree_appB etStr rfl rfl rfl rfl (cons_alloc (cons_alloc HW.out (.cells #[strV (kindC.getD x [])] 9)) (.cells #[intV ((x : Int) + 1)] 3)) rfl ((Blk.new _ _ _).alloc _) (m := 1) (news := [strV (kindC.getD x [])]) rfl (strV1 _) (by omega) ⟨Nat.le_refl _, (cons_alloc (cons_alloc HW.out (.cells #[strV (kindC.getD x [])] 9)) (.cells #[intV ((x : Int) + 1)] 3)).1.size⟩ (by simp) (by simp) (fun v' W5 hc5 hb5 hk5 => ⟨hc5.2.1, ?_⟩)
          obtain ⟨A5, c5, e5, _⟩ := own_sl hc5.2.2.head
          dsimp only at e5
          subst e5
          have HCf := Lib.hid hc5
          have HB7 := Lib.hid (blkAt (g' := W.heap.size + 1) (hb5 _ _ _ (Blk.new ((World.drew W).alloc (.cells #[strV (kindC.getD x [])] 9)) 3 #[intV ((x : Int) + 1)]) (by decide)) (World.size_alloc _ _))
          have HKF := Lib.hid (fun B => kf_then' (kf_alloc (kf_alloc (kf_drew (KeepsFrom.refl B W)) (.cells #[strV (kindC.getD x [])] 9)) (.cells #[intV ((x : Int) + 1)] 3)) (hk5 B))
          refine hPE _ _ ?_
          clear hPE PE
          simp only [List.drop_succ_cons, List.drop_zero, List.drop_nil]
          go_wp2_with (refine wpList_appB etInt rfl rfl rfl (cons_swap HCf.out) rfl HB7.out (m := 1) (news := [intV ((x : Int) + 1)]) rfl (intV1 _) (by omega) ⟨Nat.le_refl _, HCf.out.1.size⟩ (by simp) (by simp) ?_; intro v2 W9 hc9 hb9 hk9; obtain ⟨A8, c8, e8, _⟩ := own_sl hc9.2.2.head; dsimp only at e8; subst e8; have HC9 := Lib.hid (cons_drop hc9); have HK9 := Lib.hid (fun B => kf_then' (HKF.out B) (hk9 B)); have y1 := hc9.2.1.tail.head.cell 0; have y2 := hc9.2.1.tail.tail.head.cell 0; have yf1 := hc9.2.1.tail.head.frozen 0; have yf2 := hc9.2.1.tail.tail.head.frozen 0; clear hc9 hb9 hk9)
          refine ⟨rfl, ?_⟩
          gi_wp2_with fail
          have hrd := fun B => tree_round HC9.out HK9.out B (by rw [HX.out]; exact kindC_snoc _ (by omega)) (by rw [HX.out]; exact kindN_snoc _ (by omega)) rfl
          refine ⟨(hrd _).1, trivial, ⟨⟨(.slice A5 (pre.length + 1) c5, .slice A8 (pre.length + 1) c8), ⟨⟨_, _, _, rfl⟩, ⟨_, _, _, rfl⟩⟩, ?_⟩⟩⟩
          rw [List.length_append]
          exact (hrd 0).2
      · refine tree_value (v := ?_) (w' := ?_) rfl (by rfl) ?_ ?_ ?_
        rotate_left 2
        · go_simp; (try (constructor <;> with_reducible rfl))
        · exact (cons_alloc HW.out _).2.1
        refine tree_value (v := ?_) (w' := ?_) rfl (by rfl) ?_ ?_ ?_
        rotate_left 2
        · go_simp; (try (constructor <;> with_reducible rfl))
        · exact ((cons_alloc HW.out (.cells #[intV ((x : Int) + 1)] 3)).2.1).alloc _
        refine tree_appB etStr rfl rfl rfl rfl (cons_alloc (cons_alloc HW.out (.cells #[intV ((x : Int) + 1)] 3)) (.cells #[strV (kindC.getD x [])] 9)) rfl (blkAt (Blk.new ((World.drew W).alloc (.cells #[intV ((x : Int) + 1)] 3)) _ _) (World.size_alloc _ _)) (m := 1) (news := [strV (kindC.getD x [])]) rfl (strV1 _) (by omega) ⟨Nat.le_refl _, (cons_alloc (cons_alloc HW.out (.cells #[intV ((x : Int) + 1)] 3)) (.cells #[strV (kindC.getD x [])] 9)).1.size⟩ (by simp) (by simp) (fun v' W5 hc5 hb5 hk5 => ⟨hc5.2.1, ?_⟩)
        obtain ⟨A5, c5, e5, _⟩ := own_sl hc5.2.2.head
        dsimp only at e5
        subst e5
        have HCf := Lib.hid hc5
        have HB7 := Lib.hid (blkAt (g' := W.heap.size) (hb5 _ _ _ ((Blk.new (World.drew W) 3 #[intV ((x : Int) + 1)]).alloc (.cells #[strV (kindC.getD x [])] 9)) (by decide)) rfl)
        have HKF := Lib.hid (fun B => kf_then' (kf_alloc (kf_alloc (kf_drew (KeepsFrom.refl B W)) (.cells #[intV ((x : Int) + 1)] 3)) (.cells #[strV (kindC.getD x [])] 9)) (hk5 B))
        refine hPE _ _ ?_
        clear hPE PE
        simp only [List.drop_succ_cons, List.drop_zero, List.drop_nil]
        go_wp2_with (refine wpList_appB etInt rfl rfl rfl (cons_swap HCf.out) rfl HB7.out (m := 1) (news := [intV ((x : Int) + 1)]) rfl (intV1 _) (by omega) ⟨Nat.le_refl _, HCf.out.1.size⟩ (by simp) (by simp) ?_; intro v2 W9 hc9 hb9 hk9; obtain ⟨A8, c8, e8, _⟩ := own_sl hc9.2.2.head; dsimp only at e8; subst e8; have HC9 := Lib.hid (cons_drop hc9); have HK9 := Lib.hid (fun B => kf_then' (HKF.out B) (hk9 B)); have y1 := hc9.2.1.tail.head.cell 0; have y2 := hc9.2.1.tail.tail.head.cell 0; have yf1 := hc9.2.1.tail.head.frozen 0; have yf2 := hc9.2.1.tail.tail.head.frozen 0; clear hc9 hb9 hk9)
        refine ⟨rfl, ?_⟩
        gi_wp2_with fail
        have hrd := fun B => tree_round HC9.out HK9.out B (by rw [HX.out]; exact kindC_snoc _ (by omega)) (by rw [HX.out]; exact kindN_snoc _ (by omega)) rfl
        refine ⟨(hrd _).1, trivial, ⟨⟨(.slice A5 (pre.length + 1) c5, .slice A8 (pre.length + 1) c8), ⟨⟨_, _, _, rfl⟩, ⟨_, _, _, rfl⟩⟩, ?_⟩⟩⟩
        rw [List.length_append]
        exact (hrd 0).2
  case done =>
    rintro D xs W hD hxs ⟨⟨⟨v1, v2⟩, _, hc⟩⟩ hK
    subst hxs
    unfold trL trR at hc
    dsimp only at hc
    rw [List.length_range, show kindC.take 10 = kindC by kernel_rfl, show kindN.take 10 = kindN by kernel_rfl] at hc
    obtain ⟨A, B, c, d, rfl, rfl, hA, hB, hb⟩ := two_get (W := W) (cs := kindC) (ns := kindN) ⟨hc.1, cellsAt_nil _, hc.2.2⟩ (by decide) (by kernel_rfl)
    have CM := Lib.hid (make_tree kind_codes A B c d W hA hB)
    have HB := Lib.hid hb
    have y1 := hc.2.1.head.cell 0
    have y2 := hc.2.1.tail.head.cell 0
    have HK := Lib.hid hK
    rw [kindC_len] at CM y1 y2
    clear hc hA hB hb hK
    gi_wp2_with fail
    go_wp2_with (go_at_call 125; refine CM.out.mono ?_; rintro e w' ⟨T, rfl, hpt⟩; have HPT := Lib.hid hpt; clear hpt)
    have hK2 : w'.heap[D]? = some (.deferred (some [])) := (HPT.out.2.block D (Array.getElem?_eq_some_iff.1 HK.out).1).trans HK.out
    refine retM hK2 (v := .pointer (some ⟨T, 0, none⟩)) (by simp [results, Tryz.results89, go_sem]) ?_
    have hs := HB.out.size
    have hDl := (Array.getElem?_eq_some_iff.1 HK.out).1
    refine ⟨W.heap.size, T, rfl, pt_put HPT.out.1 hK2 (fun _ _ h => by cases h) rfl, below_put (HB.out.trans (HPT.out.2.mono hs)) (by simp at hD; omega)⟩
  case stop =>
    rintro D cd pre W hD hsp h hK
    exact h.elim
theorem kind_Get (A : Option Addr) (n c : Nat) (l : List UInt8) (i : Int) (w : World) (hA : Sl w A (l.map byteV)) (hn : l.length = n) (hsz : n ≤ 2 ^ 47) (hi : -9223372036854775808 ≤ i ∧ i ≤ 9223372036854775807) :
    Calls Tryz.prog 109 #[.slice A n c, .int .i64 i] w fun e w' => e = .returned (.tuple #[.int .i64 (treeR kindC kindN l i).1, .int .i64 (treeR kindC kindN l i).2.1, .int .i64 (treeR kindC kindN l i).2.2]) ∧ Below w.heap.size w w' := by
  have HA := Lib.hid hA; have Hn := Lib.hid hn
  clear hA hn
  go_enter Tryz.func109, Tryz.ntmps109
  go_wp2_with (first
    | (go_at_call 89; refine (kind_tree _).mono ?_; rintro e w1 ⟨base, T, rfl, hpt, hb1⟩; have HPT := Lib.hid hpt; have HB1 := Lib.hid hb1; clear hpt hb1)
    | (go_at_call 141; refine (get_tree kind_codes _ base T HPT.out A n c l i (HA.out.below HB1.out) Hn.out hsz hi).mono ?_; rintro e w2 ⟨rfl, hb2⟩; have HB2 := Lib.hid hb2; clear hb2))
  go_ret3
  exact ⟨rfl, HB1.out.trans (HB2.out.mono HB1.out.size)⟩
theorem kindN_run : kindN = (List.range kindC.length).map fun i : Nat => 1 + (i : Int) := by
  unfold kindN
  rw [kindC_len]
  apply List.map_congr_left
  intro j _
  omega
theorem wf_small {k : Int} (h1 : -1000000 ≤ k) (h2 : k ≤ 1000000) : (Lit.int .i64 k).wf = true := by
  have e1 : IntKind.i64.min = -9223372036854775808 := by kernel_rfl
  have e2 : IntKind.i64.max = 9223372036854775807 := by kernel_rfl
  simp [Lit.wf, e1, e2]
  omega
theorem kind_codeF {k : Int} (h : inK k = true) : (codeF kindC kindN k).getD [] = kindP k ∧ (codeF kindC kindN k).isSome = true := by
  simp only [inK, Bool.and_eq_true, decide_eq_true_eq] at h
  rw [kindN_run, codeF_run]
  unfold kindP codeAt
  refine ⟨rfl, ?_⟩
  rw [if_neg (by omega), List.getElem?_eq_getElem (by rw [kindC_len]; omega)]
  rfl
theorem kind_Put (k : Int) (w : World) (h : inK k = true) : Calls Tryz.prog 48 #[.int .i64 k] w fun e w' => e = .returned (.tuple #[.string (bs (kindP k)), .int .i64 0]) ∧ Below w.heap.size w w' := by
  have hk := kind_codeF h
  simp only [inK, Bool.and_eq_true, decide_eq_true_eq] at h
  obtain ⟨h1, h2⟩ := h
  have CP := Lib.hid (fun W base T hT => put_tree kind_codes W base T hT k (wf_small (by omega) (by omega)))
  rw [hk.1, hk.2] at CP
  clear hk
  go_enter Tryz.func48, Tryz.ntmps48
  go_wp2_with (first
    | (go_at_call 89; refine (kind_tree _).mono ?_; rintro e w1 ⟨base, T, rfl, hpt, hb1⟩; have HPT := Lib.hid hpt; have HB1 := Lib.hid hb1; clear hpt hb1)
    | (go_at_call 90; refine (CP.out _ base T HPT.out).mono ?_; rintro e w2 ⟨rfl, hb2⟩; have HB2 := Lib.hid hb2; clear hb2))
  go_ret2
  exact ⟨rfl, HB1.out.trans (HB2.out.mono HB1.out.size)⟩
end Go.Proofs.YtcojnigkgbmbmaaGreatDoor
