/- Pat -/
import Derived.Test.YtcojnigkgbmbmaaGreatDoorR19
import Derived.Test.YtcojnigkgbmbmaaGreatDoorR17
namespace Go.Proofs.YtcojnigkgbmbmaaGreatDoor
open Go Go.RowKit
attribute [local go_sem] Oper.semAt_some
def codesP : List UInt8 := [10, 48, 49, 48, 49, 49, 32, 48, 49, 48, 48, 49, 32, 48, 48, 49, 49, 48, 49, 32, 49, 49, 48, 49, 32, 48, 48, 49, 48, 49, 49, 49, 32, 48, 48, 49, 48, 48, 49, 49, 32, 48, 48, 48, 49, 49, 49, 49, 49, 32, 49, 49, 48, 48, 10, 48, 48, 49, 48, 49, 49, 48, 32, 48, 48, 49, 48, 48, 49, 48, 32, 48, 48, 48, 49, 49, 49, 49, 48, 32, 49, 48, 48, 49, 49, 32, 48, 48, 48, 49, 49, 48, 49, 49, 32, 48, 48, 48, 49, 48, 49, 49, 49, 32, 48, 48, 48, 49, 48, 48, 49, 49, 32, 49, 48, 49, 49, 10, 48, 48, 49, 48, 49, 48, 49, 32, 48, 48, 49, 48, 48, 48, 49, 32, 48, 48, 48, 49, 49, 49, 48, 49, 32, 49, 48, 48, 48, 49, 32, 48, 48, 48, 49, 49, 48, 48, 49, 32, 48, 48, 48, 49, 48, 49, 48, 49, 32, 48, 48, 48, 49, 48, 48, 48, 49, 32, 48, 48, 49, 49, 49, 49, 10, 48, 48, 48, 48, 49, 49, 49, 49, 32, 48, 48, 48, 48, 49, 49, 48, 49, 32, 48, 48, 48, 48, 48, 48, 48, 49, 49, 32, 48, 49, 49, 49, 49, 32, 48, 48, 48, 48, 49, 48, 49, 49, 32, 48, 48, 48, 48, 48, 49, 49, 49, 32, 48, 48, 48, 48, 48, 48, 49, 49, 49, 32, 49, 48, 49, 48, 10, 48, 48, 49, 48, 49, 48, 48, 32, 48, 48, 49, 48, 48, 48, 48, 32, 48, 48, 48, 49, 49, 49, 48, 48, 32, 48, 48, 49, 49, 49, 48, 32, 48, 48, 48, 48, 49, 49, 49, 48, 32, 48, 48, 48, 48, 49, 49, 48, 48, 32, 48, 48, 48, 48, 48, 48, 48, 49, 48, 32, 49, 48, 48, 48, 48, 10, 48, 48, 48, 49, 49, 48, 48, 48, 32, 48, 48, 48, 49, 48, 49, 48, 48, 32, 48, 48, 48, 49, 48, 48, 48, 48, 32, 48, 49, 49, 49, 48, 32, 48, 48, 48, 48, 49, 48, 49, 48, 32, 48, 48, 48, 48, 48, 49, 49, 48, 32, 48, 48, 48, 48, 48, 48, 49, 49, 48, 32, 49, 48, 48, 49, 48, 10, 48, 48, 48, 49, 49, 48, 49, 48, 32, 48, 48, 48, 49, 48, 49, 49, 48, 32, 48, 48, 48, 49, 48, 48, 49, 48, 32, 48, 49, 49, 48, 49, 32, 48, 48, 48, 48, 49, 48, 48, 49, 32, 48, 48, 48, 48, 48, 49, 48, 49, 32, 48, 48, 48, 48, 48, 48, 49, 48, 49, 32, 48, 49, 49, 48, 48, 10, 48, 48, 48, 48, 49, 48, 48, 48, 32, 48, 48, 48, 48, 48, 49, 48, 48, 32, 48, 48, 48, 48, 48, 48, 49, 48, 48, 32, 49, 49, 49, 32, 48, 49, 48, 49, 48, 32, 48, 49, 48, 48, 48, 32, 48, 48, 49, 49, 48, 48]
theorem fields_codes : Lib.fields codesP = patC := by kernel_rfl
theorem codes_ascii : ∀ c ∈ codesP, c.toNat < 128 := by decide +kernel
theorem codes_len : codesP.length ≤ 100000 := by decide +kernel
theorem patN_snoc (j : Nat) (h : j < 63) : patN.take (j + 1) = patN.take j ++ [(j : Int) + 1] := by revert j; decide +kernel
theorem pre_snoc {cs pre : List (List UInt8)} {x : List UInt8} (h : pre ++ [x] <+: cs) : pre.length < cs.length ∧ cs.take pre.length = pre ∧ cs.take (pre.length + 1) = cs.take pre.length ++ [x] := by
  have h1 := h.length_le
  simp at h1
  have h2 : cs.take pre.length = pre := (List.prefix_iff_eq_take.1 ((List.prefix_append _ _).trans h)).symm
  have h3 := List.prefix_iff_eq_take.1 h
  rw [List.length_append, List.length_singleton] at h3
  exact ⟨by omega, h2, by rw [← h3, h2]⟩
theorem tree_round3 {w W W9 : World} {cs : List (List UInt8)} {ns : List Int} {j n1 n2 c1 c2 : Nat} {c : List UInt8} {k : Int} {A1 A2 : Option Addr} {o1 o2 : Value} {q2 : Array Value}
    (hc : Cons w [(w.heap.size, 89, #[o1]), (w.heap.size + 1, 137, #[o2]), (w.heap.size + 2, 9, q2)] [⟨w.heap.size + 3, 3, 1, .slice A2 n2 c2, j + 1, (ns.take j).map intV ++ [intV k]⟩, ⟨w.heap.size + 3, 9, 1, .slice A1 n1 c1, j + 1, (cs.take j).map strV ++ [strV c]⟩] W9) (hk : ∀ B, KeepsFrom B W W9) (B : Nat)
    (h1 : cs.take (j + 1) = cs.take j ++ [c]) (h2 : ns.take (j + 1) = ns.take j ++ [k]) :
    KeepsFrom B W ((W9.setCell ⟨w.heap.size, 0, none⟩ (.slice A1 n1 c1)).setCell ⟨w.heap.size + 1, 0, none⟩ (.slice A2 n2 c2)) ∧
    Cons w (trL w.heap.size (.slice A1 n1 c1) (.slice A2 n2 c2) ++ [(w.heap.size + 2, 9, q2)]) (trR (w.heap.size + 3) cs ns (j + 1) (.slice A1 n1 c1) (.slice A2 n2 c2)) ((W9.setCell ⟨w.heap.size, 0, none⟩ (.slice A1 n1 c1)).setCell ⟨w.heap.size + 1, 0, none⟩ (.slice A2 n2 c2)) := by
  refine ⟨kf_set (kf_set (hk B) _ _) _ _, ?_⟩
  unfold trL trR
  rw [h1, h2, List.map_append, List.map_append]
  exact cons_swap (cons_cswap (cons_set (cons_cswap (cons_set hc (Nat.le_refl _) 0 (.slice A1 n1 c1) (by simp) (by simp))) (Nat.le_succ _) 0 (.slice A2 n2 c2) (by simp) (by simp)))
set_option maxRecDepth 100000 in
theorem fields_pat (w : World) : Calls Tryz.prog 130 #[.string ⟨#[10, 48, 49, 48, 49, 49, 32, 48, 49, 48, 48, 49, 32, 48, 48, 49, 49, 48, 49, 32, 49, 49, 48, 49, 32, 48, 48, 49, 48, 49, 49, 49, 32, 48, 48, 49, 48, 48, 49, 49, 32, 48, 48, 48, 49, 49, 49, 49, 49, 32, 49, 49, 48, 48, 10, 48, 48, 49, 48, 49, 49, 48, 32, 48, 48, 49, 48, 48, 49, 48, 32, 48, 48, 48, 49, 49, 49, 49, 48, 32, 49, 48, 48, 49, 49, 32, 48, 48, 48, 49, 49, 48, 49, 49, 32, 48, 48, 48, 49, 48, 49, 49, 49, 32, 48, 48, 48, 49, 48, 48, 49, 49, 32, 49, 48, 49, 49, 10, 48, 48, 49, 48, 49, 48, 49, 32, 48, 48, 49, 48, 48, 48, 49, 32, 48, 48, 48, 49, 49, 49, 48, 49, 32, 49, 48, 48, 48, 49, 32, 48, 48, 48, 49, 49, 48, 48, 49, 32, 48, 48, 48, 49, 48, 49, 48, 49, 32, 48, 48, 48, 49, 48, 48, 48, 49, 32, 48, 48, 49, 49, 49, 49, 10, 48, 48, 48, 48, 49, 49, 49, 49, 32, 48, 48, 48, 48, 49, 49, 48, 49, 32, 48, 48, 48, 48, 48, 48, 48, 49, 49, 32, 48, 49, 49, 49, 49, 32, 48, 48, 48, 48, 49, 48, 49, 49, 32, 48, 48, 48, 48, 48, 49, 49, 49, 32, 48, 48, 48, 48, 48, 48, 49, 49, 49, 32, 49, 48, 49, 48, 10, 48, 48, 49, 48, 49, 48, 48, 32, 48, 48, 49, 48, 48, 48, 48, 32, 48, 48, 48, 49, 49, 49, 48, 48, 32, 48, 48, 49, 49, 49, 48, 32, 48, 48, 48, 48, 49, 49, 49, 48, 32, 48, 48, 48, 48, 49, 49, 48, 48, 32, 48, 48, 48, 48, 48, 48, 48, 49, 48, 32, 49, 48, 48, 48, 48, 10, 48, 48, 48, 49, 49, 48, 48, 48, 32, 48, 48, 48, 49, 48, 49, 48, 48, 32, 48, 48, 48, 49, 48, 48, 48, 48, 32, 48, 49, 49, 49, 48, 32, 48, 48, 48, 48, 49, 48, 49, 48, 32, 48, 48, 48, 48, 48, 49, 49, 48, 32, 48, 48, 48, 48, 48, 48, 49, 49, 48, 32, 49, 48, 48, 49, 48, 10, 48, 48, 48, 49, 49, 48, 49, 48, 32, 48, 48, 48, 49, 48, 49, 49, 48, 32, 48, 48, 48, 49, 48, 48, 49, 48, 32, 48, 49, 49, 48, 49, 32, 48, 48, 48, 48, 49, 48, 48, 49, 32, 48, 48, 48, 48, 48, 49, 48, 49, 32, 48, 48, 48, 48, 48, 48, 49, 48, 49, 32, 48, 49, 49, 48, 48, 10, 48, 48, 48, 48, 49, 48, 48, 48, 32, 48, 48, 48, 48, 48, 49, 48, 48, 32, 48, 48, 48, 48, 48, 48, 49, 48, 48, 32, 49, 49, 49, 32, 48, 49, 48, 49, 48, 32, 48, 49, 48, 48, 48, 32, 48, 48, 49, 49, 48, 48]⟩] w fun e w' => e = .returned (.func (.func 154) #[] #[.pointer (some ⟨w.heap.size, 0, none⟩)]) ∧ w.alloc (.cells #[.string (bs codesP)] 9) = w' := fields_start codesP w
set_option maxRecDepth 100000 in
set_option maxHeartbeats 4000000 in
theorem pattern_tree (w : World) (hT : Ts w) : Calls Tryz.prog 94 #[] w (TreePost patC patN w) := by
  have HTS := Lib.hid hT
  clear hT
  obtain ⟨LS, hls⟩ : ∃ LS, LS = bs codesP := ⟨_, rfl⟩
  have CF := Lib.hid (fun W => fields_pat W)
  rw [← hls] at CF
  obtain ⟨FC, hfc⟩ : ∃ FC, FC = Lib.fields codesP := ⟨_, rfl⟩
  have SQ := Lib.hid (fun b I hI => fields_seq 4 (by decide) b codesP codes_ascii codes_len I hI)
  rw [← hls, ← hfc] at SQ
  have HFC := Lib.hid (hfc.trans fields_codes)
  clear hls hfc
  refine (callsIn_wide (n := 5)).1 ?_
  refine callsIn_of_wp_marks Tryz.func94 rfl trivial ?_ rfl
  simp only [Tryz.ntmps94, List.size_toArray, List.length_cons, List.length_nil, Nat.reduceAdd, Nat.reduceSub, Array.replicate_succ, Array.replicate_zero, List.push_toArray, List.append_toArray, List.nil_append, List.cons_append]
  refine wpIn_wide.2 ?_
  go_wp2_with (go_at_call 130; refine (CF.out _).mono ?_; rintro e w' ⟨rfl, rfl⟩)
  clear CF
  simp only [Nat.add_assoc, Nat.reduceAdd]
  refine (wpIn_wide (n := 5)).1 ?_
  refine wp_uF (α := List UInt8) (enc := fun x => #[.string (bs x)]) (I := ICons w (fun _ (_ : Value × Value) => True) (fun _ v => trL w.heap.size v.1 v.2 ++ [(w.heap.size + 2, 9, #[.string LS])]) (fun pre v => trR (w.heap.size + 3) patC patN pre.length v.1 v.2)) (I2 := ICons w (fun _ (_ : Value × Value) => True) (fun _ v => trL w.heap.size v.1 v.2 ++ [(w.heap.size + 2, 9, #[.string LS])]) (fun pre v => trR (w.heap.size + 3) patC patN pre.length v.1 v.2)) (S := fun xs => xs = FC) (Sp := fun pre => pre <+: FC)
    rfl (by decide) (gf := 154) (lb := #[.pointer (some ⟨w.heap.size + 2, 0, none⟩)]) rfl trivial (enters_of Tryz.func154 (by kernel_rfl) rfl)
    (SQ.out (w.heap.size + 2) _ ?hIs) (fun _ => rfl)
    (fun _ _ _ => False)
    (fun pre _ _ W => ICons w (fun _ (_ : Value × Value) => True) (fun _ v => trL w.heap.size v.1 v.2 ++ [(w.heap.size + 2, 9, #[.string LS])]) (fun pre v => trR (w.heap.size + 3) patC patN pre.length v.1 v.2) pre W)
    (own_ic (by simp; omega) _ _ _) (own_ic (by simp; omega) _ _ _) (fun _ _ _ _ _ h _ _ => h) (fun x g => own_ic (by simp; omega) _ _ _) ?start ?round ?done ?stop
  case hIs =>
    rintro pre W ⟨⟨v, _, hc⟩⟩
    have h := hc.2.1.tail.tail.head
    exact ⟨h, HTS.out.below hc.1⟩
  case start =>
    refine ⟨⟨(.slice none 0 0, .slice none 0 0), trivial, ?_, ?_, ?_⟩⟩
    · exact (((Below.refl _ _).alloc (Nat.le_refl _) _).alloc (by simp) _).alloc (by simp; omega) _
    · refine CellsAt.cons ?_ (CellsAt.cons ?_ (CellsAt.cons ?_ (cellsAt_nil _)))
      all_goals (repeat (first | (refine blkAt (Blk.new _ _ _) ?_; simp [World.size_alloc]; done) | refine Blk.alloc ?_ _))
    · exact RowsAt.cons (World.ownsRow_nil _ _ _ _) (RowsAt.cons (World.ownsRow_nil _ _ _ _) (rowsAt_nil _))
  case round =>
    apply Exists.intro
    refine And.intro ?_ ?_
    · rintro lp pre x W hI hsp
      clear hsp
      gi_wp2
      obtain ⟨g0, _⟩ : ∃ g0 : Nat, g0 = 0 := ⟨_, rfl⟩
      exact ⟨⟨g0, rfl, hI⟩, KeepsFrom.refl _ _⟩
    · rintro lp pre x g W ⟨⟨⟨v1, v2⟩, _, hc⟩⟩ hsp
      rw [HFC.out] at hsp
      obtain ⟨hpl, _, hpt⟩ := pre_snoc hsp
      have hp63 : pre.length < 63 := by rw [show patC.length = 63 by kernel_rfl] at hpl; exact hpl
      have HT1 := Lib.hid hpt
      have HT2 := Lib.hid (patN_snoc pre.length hp63)
      unfold trL trR at hc
      dsimp only at hc
      obtain ⟨A1, c1, e1, _⟩ := own_sl hc.2.2.head
      obtain ⟨A2, c2, e2, _⟩ := own_sl hc.2.2.tail.head
      dsimp only at e1 e2
      subst e1 e2
      have HC := Lib.hid hc
      have hl62 : pre.length ≤ 62 := by omega
      have hw1 : IntKind.i64.wrap ((pre.length : Int) + 1) = (pre.length : Int) + 1 := by rw [IntKind.wrap_i64]; omega
      clear hc hpl hpt hsp
      gi_wp2_with fail
      refine wpIn_region_tree (fun w' => CellsAt [(w.heap.size, 89, #[.slice A1 pre.length c1]), (w.heap.size + 1, 137, #[.slice A2 pre.length c2]), (w.heap.size + 2, 9, #[.string LS])] w') 9 (.take 0 (.take 1 (.take 4 (.take 5 (.take 6 (.take 7 (.fork 2 (.fork 3 (.step 8 (.done)) 8 (.step 3 (.done))) 8 (.step 2 (.step 3 (.done)))))))))) (by kernel_rfl) (by kernel_rfl) (by simp only [Pln.out, Array.getD_eq_getD_getElem?, List.getElem?_toArray, List.getElem?_cons_zero, List.getElem?_cons_succ, Option.getD_some]; rfl) (by simp only [List.map_cons, List.map_nil]; rfl) (HC.out.2.1) (fun PE hPE => ?_)
      iterate 6
        refine tree_take (v := ?_) rfl (by rfl) ?_ ?_
        rotate_left
        · intro _ hSw; (try dsimp only at hSw); have z1 := hSw.head.cell 0; have z2 := hSw.tail.head.cell 0; go_simp; (try with_reducible rfl)
        simp only [List.setIfInBounds_toArray, List.set_cons_zero, List.set_cons_succ]

      have HW := Lib.hid (cons_drew HC.out)
      refine ⟨?_, ?_⟩
      · refine tree_value (v := ?_) (w' := ?_) rfl (by rfl) ?_ ?_ ?_
        rotate_left 2
        · go_simp; (try (constructor <;> with_reducible rfl))
        · exact (cons_alloc HW.out _).2.1
        refine ⟨?_, ?_⟩
        · refine tree_appB etStr rfl rfl rfl rfl (cons_alloc HW.out (.cells #[strV x] 9)) rfl (Blk.new (World.drew W) _ _) (m := 1) (news := [strV x]) rfl (strV1 _) (by omega) ⟨by omega, (cons_alloc HW.out (.cells #[strV x] 9)).2.1.tail.tail.head.lt⟩ (by simp) (by simp) (fun v' W5 hc5 hb5 hk5 => ⟨hc5.2.1, ?_⟩)
          obtain ⟨A5, c5, e5, _⟩ := own_sl hc5.2.2.head
          dsimp only at e5
          subst e5
          refine tree_value (v := ?_) (w' := ?_) rfl (by rfl) ?_ ?_ ?_
          rotate_left 2
          · go_simp; (try (constructor <;> with_reducible rfl))
          · exact hc5.2.1.alloc _
          have HCf := Lib.hid (cons_alloc hc5 (.cells #[intV ((pre.length : Int) + 1)] 3))
          have HB7 := Lib.hid (Blk.new W5 3 #[intV ((pre.length : Int) + 1)])
          have HKF := Lib.hid (fun B => kf_alloc (kf_then' (kf_alloc (kf_drew (KeepsFrom.refl B W)) (.cells #[strV x] 9)) (hk5 B)) (.cells #[intV ((pre.length : Int) + 1)] 3))
          refine hPE _ _ ?_
          clear hPE PE
          simp only [List.drop_succ_cons, List.drop_zero, List.drop_nil]
          go_wp2_with (refine wpList_appB etInt rfl rfl rfl (cons_swap HCf.out) rfl HB7.out (m := 1) (news := [intV ((pre.length : Int) + 1)]) rfl (intV1 _) (by omega) ⟨by omega, HCf.out.2.1.tail.tail.head.lt⟩ (by simp) (by simp) ?_; intro v2 W9 hc9 hb9 hk9; obtain ⟨A8, c8, e8, _⟩ := own_sl hc9.2.2.head; dsimp only at e8; subst e8; have HC9 := Lib.hid hc9; have HK9 := Lib.hid (fun B => kf_then' (HKF.out B) (hk9 B)); have y1 := hc9.2.1.head.cell 0; have y2 := hc9.2.1.tail.head.cell 0; have yf1 := hc9.2.1.head.frozen 0; have yf2 := hc9.2.1.tail.head.frozen 0; clear hc9 hb9 hk9)
          refine ⟨rfl, ?_⟩
          gi_wp2_with fail
          have hrd := fun B => tree_round3 HC9.out HK9.out B HT1.out HT2.out
          refine ⟨(hrd _).1, trivial, ⟨⟨(.slice A5 (pre.length + 1) c5, .slice A8 (pre.length + 1) c8), trivial, ?_⟩⟩⟩
          rw [List.length_append]
          exact (hrd 0).2
        · refine tree_value (v := ?_) (w' := ?_) rfl (by rfl) ?_ ?_ ?_
          rotate_left 2
          · go_simp; (try (constructor <;> with_reducible rfl))
          · exact ((cons_alloc HW.out (.cells #[strV x] 9)).2.1).alloc _
          refine tree_appB etStr rfl rfl rfl rfl (cons_alloc (cons_alloc HW.out (.cells #[strV x] 9)) (.cells #[intV ((pre.length : Int) + 1)] 3)) rfl ((Blk.new (World.drew W) _ _).alloc _) (m := 1) (news := [strV x]) rfl (strV1 _) (by omega) ⟨by omega, (cons_alloc (cons_alloc HW.out (.cells #[strV x] 9)) (.cells #[intV ((pre.length : Int) + 1)] 3)).2.1.tail.tail.head.lt⟩ (by simp) (by simp) (fun v' W5 hc5 hb5 hk5 => ⟨hc5.2.1, ?_⟩)
          obtain ⟨A5, c5, e5, _⟩ := own_sl hc5.2.2.head
          dsimp only at e5
          subst e5
          have HCf := Lib.hid hc5
          have HB7 := Lib.hid (blkAt (g' := W.heap.size + 1) (hb5 _ _ _ (Blk.new ((World.drew W).alloc (.cells #[strV x] 9)) 3 #[intV ((pre.length : Int) + 1)]) (by decide)) (World.size_alloc _ _))
          have HKF := Lib.hid (fun B => kf_then' (kf_alloc (kf_alloc (kf_drew (KeepsFrom.refl B W)) (.cells #[strV x] 9)) (.cells #[intV ((pre.length : Int) + 1)] 3)) (hk5 B))
          refine hPE _ _ ?_
          clear hPE PE
          simp only [List.drop_succ_cons, List.drop_zero, List.drop_nil]
          go_wp2_with (refine wpList_appB etInt rfl rfl rfl (cons_swap HCf.out) rfl HB7.out (m := 1) (news := [intV ((pre.length : Int) + 1)]) rfl (intV1 _) (by omega) ⟨by omega, HCf.out.2.1.tail.tail.head.lt⟩ (by simp) (by simp) ?_; intro v2 W9 hc9 hb9 hk9; obtain ⟨A8, c8, e8, _⟩ := own_sl hc9.2.2.head; dsimp only at e8; subst e8; have HC9 := Lib.hid hc9; have HK9 := Lib.hid (fun B => kf_then' (HKF.out B) (hk9 B)); have y1 := hc9.2.1.head.cell 0; have y2 := hc9.2.1.tail.head.cell 0; have yf1 := hc9.2.1.head.frozen 0; have yf2 := hc9.2.1.tail.head.frozen 0; clear hc9 hb9 hk9)
          refine ⟨rfl, ?_⟩
          gi_wp2_with fail
          have hrd := fun B => tree_round3 HC9.out HK9.out B HT1.out HT2.out
          refine ⟨(hrd _).1, trivial, ⟨⟨(.slice A5 (pre.length + 1) c5, .slice A8 (pre.length + 1) c8), trivial, ?_⟩⟩⟩
          rw [List.length_append]
          exact (hrd 0).2
      · refine tree_value (v := ?_) (w' := ?_) rfl (by rfl) ?_ ?_ ?_
        rotate_left 2
        · go_simp; (try (constructor <;> with_reducible rfl))
        · exact (cons_alloc HW.out _).2.1
        refine tree_value (v := ?_) (w' := ?_) rfl (by rfl) ?_ ?_ ?_
        rotate_left 2
        · go_simp; (try (constructor <;> with_reducible rfl))
        · exact ((cons_alloc HW.out (.cells #[intV ((pre.length : Int) + 1)] 3)).2.1).alloc _
        refine tree_appB etStr rfl rfl rfl rfl (cons_alloc (cons_alloc HW.out (.cells #[intV ((pre.length : Int) + 1)] 3)) (.cells #[strV x] 9)) rfl (blkAt (Blk.new ((World.drew W).alloc (.cells #[intV ((pre.length : Int) + 1)] 3)) _ _) (World.size_alloc _ _)) (m := 1) (news := [strV x]) rfl (strV1 _) (by omega) ⟨by omega, (cons_alloc (cons_alloc HW.out (.cells #[intV ((pre.length : Int) + 1)] 3)) (.cells #[strV x] 9)).2.1.tail.tail.head.lt⟩ (by simp) (by simp) (fun v' W5 hc5 hb5 hk5 => ⟨hc5.2.1, ?_⟩)
        obtain ⟨A5, c5, e5, _⟩ := own_sl hc5.2.2.head
        dsimp only at e5
        subst e5
        have HCf := Lib.hid hc5
        have HB7 := Lib.hid (blkAt (g' := W.heap.size) (hb5 _ _ _ ((Blk.new (World.drew W) 3 #[intV ((pre.length : Int) + 1)]).alloc (.cells #[strV x] 9)) (by decide)) rfl)
        have HKF := Lib.hid (fun B => kf_then' (kf_alloc (kf_alloc (kf_drew (KeepsFrom.refl B W)) (.cells #[intV ((pre.length : Int) + 1)] 3)) (.cells #[strV x] 9)) (hk5 B))
        refine hPE _ _ ?_
        clear hPE PE
        simp only [List.drop_succ_cons, List.drop_zero, List.drop_nil]
        go_wp2_with (refine wpList_appB etInt rfl rfl rfl (cons_swap HCf.out) rfl HB7.out (m := 1) (news := [intV ((pre.length : Int) + 1)]) rfl (intV1 _) (by omega) ⟨by omega, HCf.out.2.1.tail.tail.head.lt⟩ (by simp) (by simp) ?_; intro v2 W9 hc9 hb9 hk9; obtain ⟨A8, c8, e8, _⟩ := own_sl hc9.2.2.head; dsimp only at e8; subst e8; have HC9 := Lib.hid hc9; have HK9 := Lib.hid (fun B => kf_then' (HKF.out B) (hk9 B)); have y1 := hc9.2.1.head.cell 0; have y2 := hc9.2.1.tail.head.cell 0; have yf1 := hc9.2.1.head.frozen 0; have yf2 := hc9.2.1.tail.head.frozen 0; clear hc9 hb9 hk9)
        refine ⟨rfl, ?_⟩
        gi_wp2_with fail
        have hrd := fun B => tree_round3 HC9.out HK9.out B HT1.out HT2.out
        refine ⟨(hrd _).1, trivial, ⟨⟨(.slice A5 (pre.length + 1) c5, .slice A8 (pre.length + 1) c8), trivial, ?_⟩⟩⟩
        rw [List.length_append]
        exact (hrd 0).2
  case done =>
    rintro D xs W hD hxs ⟨⟨⟨v1, v2⟩, _, hc⟩⟩ hK
    subst hxs
    rw [HFC.out] at hc
    unfold trL trR at hc
    dsimp only at hc
    rw [show patC.take patC.length = patC by kernel_rfl, show patN.take patC.length = patN by kernel_rfl] at hc
    obtain ⟨A, B, c, d, rfl, rfl, hA, hB, hb⟩ := two_get2 (W := W) (cs := patC) (ns := patN) hc (by decide)
    have CM := Lib.hid (make_tree pat_codes A B c d W hA hB)
    have HB := Lib.hid hb
    have y1 := hc.2.1.head.cell 0
    have y2 := hc.2.1.tail.head.cell 0
    have HK := Lib.hid hK
    rw [show patC.length = 63 by kernel_rfl] at CM y1 y2
    clear hc hA hB hb hK
    gi_wp2_with fail
    go_wp2_with (go_at_call 125; refine CM.out.mono ?_; rintro e w' ⟨T, rfl, hpt⟩; have HPT := Lib.hid hpt; clear hpt)
    have hK2 : w'.heap[D]? = some (.deferred (some [])) := (HPT.out.2.block D (Array.getElem?_eq_some_iff.1 HK.out).1).trans HK.out
    refine retM hK2 (v := .pointer (some ⟨T, 0, none⟩)) (by simp [results, Tryz.results94, go_sem]) ?_
    have hs := HB.out.size
    refine ⟨W.heap.size, T, rfl, pt_put HPT.out.1 hK2 (fun _ _ h => by cases h) rfl, below_put (HB.out.trans (HPT.out.2.mono hs)) (by simp at hD; omega)⟩
  case stop =>
    rintro D cd pre W hD hsp h hK
    exact h.elim
theorem pattern_Get (A : Option Addr) (n c : Nat) (l : List UInt8) (i : Int) (w : World) (hT : Ts w) (hA : Sl w A (l.map byteV)) (hn : l.length = n) (hsz : n ≤ 2 ^ 47) (hi : -9223372036854775808 ≤ i ∧ i ≤ 9223372036854775807) :
    Calls Tryz.prog 114 #[.slice A n c, .int .i64 i] w fun e w' => e = .returned (.tuple #[.int .i64 (treeR patC patN l i).1, .int .i64 (treeR patC patN l i).2.1, .int .i64 (treeR patC patN l i).2.2]) ∧ Below w.heap.size w w' := by
  have HA := Lib.hid hA; have Hn := Lib.hid hn; have HT := Lib.hid hT
  clear hA hn hT
  go_enter Tryz.func114, Tryz.ntmps114
  go_wp2_with (first
    | (go_at_call 94; refine (pattern_tree _ HT.out).mono ?_; rintro e w1 ⟨base, T, rfl, hpt, hb1⟩; have HPT := Lib.hid hpt; have HB1 := Lib.hid hb1; clear hpt hb1)
    | (go_at_call 141; refine (get_tree pat_codes _ base T HPT.out A n c l i (HA.out.below HB1.out) Hn.out hsz hi).mono ?_; rintro e w2 ⟨rfl, hb2⟩; have HB2 := Lib.hid hb2; clear hb2))
  go_ret3
  exact ⟨rfl, HB1.out.trans (HB2.out.mono HB1.out.size)⟩
theorem patN_run : patN = (List.range patC.length).map fun i : Nat => 1 + (i : Int) := by
  unfold patN
  rw [show patC.length = 63 by kernel_rfl]
  apply List.map_congr_left
  intro j _
  omega
theorem pat_codeF {k : Int} (h1 : 1 ≤ k) (h2 : k ≤ 63) : (codeF patC patN k).getD [] = patP k ∧ (codeF patC patN k).isSome = true := by
  rw [patN_run, codeF_run]
  unfold patP codeAt
  refine ⟨rfl, ?_⟩
  rw [if_neg (by omega), List.getElem?_eq_getElem (by rw [show patC.length = 63 by kernel_rfl]; omega)]
  rfl
theorem pattern_Put (k : Int) (w : World) (hT : Ts w) (h1 : 1 ≤ k) (h2 : k ≤ 63) : Calls Tryz.prog 51 #[.int .i64 k] w fun e w' => e = .returned (.tuple #[.string (bs (patP k)), .int .i64 0]) ∧ Below w.heap.size w w' := by
  have hk := pat_codeF h1 h2
  have HT := Lib.hid hT
  have CP := Lib.hid (fun W base T hT => put_tree pat_codes W base T hT k (wf_small (by omega) (by omega)))
  rw [hk.1, hk.2] at CP
  clear hk hT
  go_enter Tryz.func51, Tryz.ntmps51
  go_wp2_with (first
    | (go_at_call 94; refine (pattern_tree _ HT.out).mono ?_; rintro e w1 ⟨base, T, rfl, hpt, hb1⟩; have HPT := Lib.hid hpt; have HB1 := Lib.hid hb1; clear hpt hb1)
    | (go_at_call 90; refine (CP.out _ base T HPT.out).mono ?_; rintro e w2 ⟨rfl, hb2⟩; have HB2 := Lib.hid hb2; clear hb2))
  go_ret2
  exact ⟨rfl, HB1.out.trans (HB2.out.mono HB1.out.size)⟩
end Go.Proofs.YtcojnigkgbmbmaaGreatDoor
