/- Ref08, Ref09, Ref08b -/
import Derived.Test.YtcojnigkgbmbmaaGreatDoorT11
import Derived.Test.YtcojnigkgbmbmaaGreatDoorT02
import Derived.Test.YtcojnigkgbmbmaaGreatDoorT12
import Derived.Test.YtcojnigkgbmbmaaGreatDoorT26
namespace Go.Proofs.YtcojnigkgbmbmaaGreatDoor
open Go Go.RowKit
def cutS (x : List UInt8) : Nat → List (List UInt8) × Nat
  | 0 => ([], 0)
  | i + 1 => if i = x.length ∨ x.getD i 0 = 32 then ((cutS x i).1 ++ [(x.take i).drop (cutS x i).2], i + 1) else cutS x i
def cutR (x : List UInt8) : List (List UInt8) := (cutS x (x.length + 1)).1
theorem cutS_le (x : List UInt8) : ∀ i, (cutS x i).2 ≤ i ∧ (cutS x i).1.length ≤ i
  | 0 => ⟨Nat.le_refl _, Nat.le_refl _⟩
  | i + 1 => by
    have h := cutS_le x i
    unfold cutS
    split
    · refine ⟨Nat.le_refl _, ?_⟩
      rw [List.length_append]
      simp
      omega
    · omega
def prsR (q : Nat) (n : Nat) : List (Int × Int) := (List.range n).map fun k : Nat => ((q : Int), (k : Int) + 1)
def codesTo (r : Nat) : List (List UInt8) := (rowL.take r).flatMap cutR
def prsTo (r : Nat) : List (Int × Int) := (List.range r).flatMap fun q => prsR q (cutR (rowL.getD q [])).length
theorem codesTo_succ (r : Nat) (h : r < rowL.length) : codesTo (r + 1) = codesTo r ++ cutR rowL[r] := by
  unfold codesTo
  rw [List.take_add_one, List.getElem?_eq_getElem h, List.flatMap_append]
  simp
theorem prsTo_succ (r : Nat) (h : r < rowL.length) : prsTo (r + 1) = prsTo r ++ prsR r (cutR rowL[r]).length := by
  unfold prsTo
  rw [List.range_succ, List.flatMap_append]
  simp [List.getD_eq_getElem?_getD, List.getElem?_eq_getElem h]
theorem prsR_succ (q n : Nat) : prsR q (n + 1) = prsR q n ++ [((q : Int), (n : Int) + 1)] := by simp [prsR, List.range_succ]
theorem prsR_len (q n : Nat) : (prsR q n).length = n := by simp [prsR]
def codes8 : List (List UInt8) := (tabL false).map (·.2)
def prs8 : List (Int × Int) := (tabL false).map (·.1)
theorem codesTo_all : codesTo 27 = codes8 := by kernel_rfl
theorem prsTo_all : prsTo 27 = prs8 := by kernel_rfl
theorem codes8_len : codes8.length = 63 := by kernel_rfl
theorem prs8_len : prs8.length = 63 := by kernel_rfl
theorem rowL_le : rowL.all (fun x => decide (x.length ≤ 200)) = true := by kernel_rfl
set_option maxRecDepth 100000 in
theorem ref08_rows (w : World) : Calls Tryz.prog 147 #[] w fun e w' => (∃ A, e = .returned (.slice A 27 27) ∧ Sl w' A (rowL.map strV)) ∧ Below w.heap.size w w' := by
  go_enter Tryz.func147, Tryz.ntmps147
  go_wp2_with fail
  go_ret
  exact ⟨⟨_, rfl, Blk.sl (Blk.new w 9 (rowL.map strV).toArray) 0⟩, (Below.refl _ _).alloc (Nat.le_refl _) _⟩
theorem pairC_app (L : List (Int × Int)) (p : Int × Int) : rowC pairC (L ++ [p]) = rowC pairC L ++ [.int .i64 p.1, .int .i64 p.2] := by rw [rowC_app, rowC_one]; rfl
/-- the two lists. -/
def Two8 (w : World) (v1 v2 : Value) (P : List (Int × Int)) (C : List (List UInt8)) (W : World) : Prop := Cons w [] [⟨w.heap.size, 109, 2, v1, P.length, rowC pairC P⟩, ⟨w.heap.size, 9, 1, v2, C.length, C.map strV⟩] W
def CodedPost (w : World) (e : Ending) (w' : World) : Prop := ∃ w1 v1 v2, Below w.heap.size w w1 ∧ e = .returned (.tuple #[v1, v2]) ∧ Two8 w1 v1 v2 prs8 codes8 w'
theorem lens8 : (List.range 28).all (fun r => decide ((prsTo r).length ≤ 63) && decide ((codesTo r).length ≤ 63)) = true := by kernel_rfl
theorem cutS_stop {x : List UInt8} {i : Nat} (h : i = x.length ∨ x.getD i 0 = 32) : cutS x (i + 1) = ((cutS x i).1 ++ [(x.take i).drop (cutS x i).2], i + 1) := if_pos h
theorem cutS_go {x : List UInt8} {i : Nat} (h : ¬ (i = x.length ∨ x.getD i 0 = 32)) : cutS x (i + 1) = cutS x i := if_neg h
theorem two8_app {w : World} {v1 v2 : Value} {P : List (Int × Int)} {C : List (List UInt8)} {p : Int × Int} {c : List UInt8} {W : World}
    (h : Cons w [] [⟨w.heap.size, 9, 1, v2, C.length + 1, C.map strV ++ [strV c]⟩, ⟨w.heap.size, 109, 2, v1, P.length + 1, rowC pairC P ++ [.int .i64 p.1, .int .i64 p.2]⟩] W) : Two8 w v1 v2 (P ++ [p]) (C ++ [c]) W := by
  unfold Two8
  rw [pairC_app, List.map_append, List.length_append, List.length_append]
  exact cons_swap h
set_option maxRecDepth 100000 in
set_option maxHeartbeats 4000000 in
theorem ref08_Coded (w : World) : Calls Tryz.prog 122 #[] w (CodedPost w) := by
  go_enter Tryz.func122, Tryz.ntmps122
  go_wp2_with fail
  refine (ref08_rows w).mono ?_
  rintro e w1 ⟨⟨A, rfl, hS⟩, hb1⟩
  have HS := Lib.hid hS; have HB1 := Lib.hid hb1
  have HC0 : Hid (Two8 w1 (.slice none 0 0) (.slice none 0 0) (prsTo 0) (codesTo 0) w1) := Lib.hid (cons_nilrow (cons_nilrow (cons_start w1) w1.heap.size 9 1) w1.heap.size 109 2)
  clear hS hb1
  go_wp2_with fail
  go_loopg [2, 3, 5] 27 (fun g v1 v2 i => fun wr => ∃ (r : Nat), r + g = 27 ∧ i = .int .i64 (r : Int) ∧ Hid (Two8 w1 v1 v2 (prsTo r) (codesTo r) wr))
  case atStart => exact ⟨0, by omega, rfl, HC0⟩
  case round =>
    obtain ⟨r, hr, rfl, HC⟩ := hrel
    cases gk with
    | zero =>
      obtain rfl : r = 27 := by omega
      rw [prsTo_all, codesTo_all] at HC
      go_wp2_with fail
      go_ret2
      exact ⟨w1, _, _, HB1.out, rfl, HC.out⟩
    | succ g =>
      have hlt : ((r : Int) < 27) := by omega
      have hr27 : r < rowL.length := by rw [rowL_len]; omega
      have h200 : rowL[r].length ≤ 200 := by
        have := List.all_eq_true.1 rowL_le rowL[r] (List.getElem_mem hr27)
        simpa using this
      have h63 : (prsTo r).length ≤ 63 ∧ (codesTo r).length ≤ 63 := by
        have := List.all_eq_true.1 lens8 r (List.mem_range.2 (by omega))
        simpa using this
      have hcs := codesTo_succ r hr27
      have hps := prsTo_succ r hr27
      have hx0 : ∀ W, Sl W A (rowL.map strV) → ∃ ad, A = some ad ∧ W.cell? (ad.add r) = some (.string (bs rowL[r])) := fun W hW => by
        obtain ⟨ad, h1, _, h2⟩ := hW.at_ r (by rw [List.length_map]; exact hr27)
        rw [List.getElem_map] at h2
        exact ⟨ad, h1, h2⟩
      obtain ⟨x, hx⟩ : ∃ x, rowL[r] = x := ⟨_, rfl⟩
      rw [hx] at h200 hcs hps hx0
      have HCS := Lib.hid hcs; have HPS := Lib.hid hps; have HX := Lib.hid hx0; have HR := Lib.hid hr; have H200 := Lib.hid h200; have H63 := Lib.hid h63
      have HC1 : Hid (Two8 w1 _ _ (prsTo r ++ prsR r (cutS x 0).1.length) (codesTo r ++ (cutS x 0).1) wr) := Lib.hid (by
        unfold cutS
        rw [List.append_nil, List.length_nil, show prsR r 0 = [] from rfl, List.append_nil]
        exact HC.out)
      clear hcs hps hx0 hx hr h200 hr27 HC h63
      obtain ⟨xl, hxl⟩ : ∃ xl, x.length = xl := ⟨_, rfl⟩
      have HXL := Lib.hid hxl
      clear hxl
      go_wp2_with fail
      go_loopg [2, 3, 6, 7, 8] (xl + 1) (fun gg v1 v2 t6 t7 t8 => fun wx => ∃ (i : Nat), i + gg = xl + 1 ∧ t6 = .int .i64 (((cutS x i).1.length : Int) + 1) ∧ t7 = .int .i64 ((cutS x i).2 : Nat) ∧ t8 = .int .i64 (i : Int) ∧ Hid (Two8 w1 v1 v2 (prsTo r ++ prsR r (cutS x i).1.length) (codesTo r ++ (cutS x i).1) wx))
      case atStart => exact ⟨0, by omega, rfl, rfl, rfl, HC1⟩
      case round =>
        obtain ⟨i, hi, rfl, rfl, rfl, HC2⟩ := hrel
        obtain ⟨ad, rfl, hcell⟩ := HX.out wr (HS.out.below HC2.out.1)
        have HX2 : Hid (∀ W, Below w1.heap.size w1 W → W.cell? (ad.add r) = some (.string (bs x))) := Lib.hid (fun W hb => by
          obtain ⟨ad', h1, h2⟩ := HX.out W (HS.out.below hb)
          cases h1
          exact h2)
        have hl := HXL.out
        cases gk with
        | zero =>
          obtain rfl : i = xl + 1 := by omega
          have hle : ¬ (((xl + 1 : Nat) : Int) ≤ (x.length : Int)) := by omega
          have HC3 : Hid (Two8 w1 _ _ (prsTo (r + 1)) (codesTo (r + 1)) wr) := Lib.hid (by rw [HPS.out, HCS.out]; unfold cutR; rw [hl]; exact HC2.out)
          clear HC2
          go_wp2_with fail
          go_roundg g
          case measure => omega
          case rel => exact ⟨r + 1, by have := HR.out; omega, rfl, HC3⟩
        | succ gg =>
          have hle : ((i : Int) ≤ (x.length : Int)) := by omega
          have hcl := cutS_le x i
          have h200 := H200.out
          have h63 := H63.out
          by_cases hst : i = x.length ∨ x.getD i 0 = 32
          · have hnx := cutS_stop hst
            have hcas : ((i : Int) == (x.length : Int)) = true ∨ (((i : Int) == (x.length : Int)) = false ∧ ∃ h : i < x.length, ((x[i].toNat : Int) == 32) = true) := by
              by_cases h1 : i = x.length
              · left; rw [h1]; simp
              · right
                have hlt2 : i < x.length := by omega
                refine ⟨by rw [beq_eq_false_iff_ne]; omega, hlt2, ?_⟩
                have h2 : x.getD i 0 = 32 := by rcases hst with h | h; exact absurd h h1; exact h
                have hxi : x.getD i 0 = x[i] := by simp [List.getD, hlt2]
                rw [← hxi, h2]
                rfl
            obtain ⟨⟨cs, fr⟩, hc⟩ : ∃ q, cutS x i = q := ⟨_, rfl⟩
            rw [hc] at hnx hcl HC2 ⊢
            dsimp only at hnx hcl HC2 ⊢
            have hpr := prsR_succ r cs.length
            have hz := HC2.out
            obtain ⟨A1, c1, q1⟩ := own_slN hz.2.2.head
            obtain ⟨A2, c2, q2, _⟩ := own_sl hz.2.2.tail.head
            dsimp only at q1 q2
            subst q1 q2
            unfold Two8 at hz
            obtain ⟨n1, hn1⟩ : ∃ n1, (prsTo r ++ prsR r cs.length).length = n1 := ⟨_, rfl⟩
            obtain ⟨n2, hn2⟩ : ∃ n2, (codesTo r ++ cs).length = n2 := ⟨_, rfl⟩
            have hb1 : n1 ≤ 300 := by rw [← hn1, List.length_append, prsR_len]; omega
            have hb2 : n2 ≤ 300 := by rw [← hn2, List.length_append]; omega
            rw [hn1, hn2] at hz ⊢
            have HN1 := Lib.hid hn1; have HN2 := Lib.hid hn2
            have HP := Lib.hid hz; have HNX := Lib.hid hnx; have HPR := Lib.hid hpr
            have hw6 : IntKind.i64.wrap ((cs.length : Int) + 1 + 1) = (cs.length : Int) + 1 + 1 := by rw [IntKind.wrap_i64]; omega
            have hwi : IntKind.i64.wrap ((i : Int) + 1) = (i : Int) + 1 := by rw [IntKind.wrap_i64]; omega
            have hf1 : ((fr : Int) ≤ (i : Int)) := by omega
            have hf0 : ¬ ((i : Int) < (fr : Int)) := by omega
            have tok : True := trivial
            have HI := Lib.hid hi
            clear hst hnx hc hz hpr hi hl h200 h63 hcl HC2 hn1 hn2
            rcases hcas with e1 | ⟨e1, hlt2, e2⟩
            all_goals
              go_wp2_with (first
                | (at_builtin; have _t := tok; refine wpList_appC etPair rfl rfl 1 [.int .i64 (r : Int), .int .i64 ((cs.length : Int) + 1)] rfl HP.out rfl rfl (by intro u hu; simp at hu; rcases hu with rfl | rfl <;> rfl) (by omega) ⟨Nat.le_refl _, HP.out.1.size⟩ (by simp) (by simp) ?_; clear tok; intro v1 W1 hc1; have HC3 := Lib.hid hc1; have hcell1 := HX2.out _ hc1.1; clear hc1 hcell)
                | (at_builtin; refine wpList_appC etStr rfl rfl 1 [strV ((x.take i).drop fr)] rfl (cons_swap HC3.out) rfl rfl (by intro u hu; simp [strV] at hu; subst hu; rfl) (by omega) ⟨Nat.le_refl _, HC3.out.1.size⟩ (by simp) (by simp) ?_; intro v2 W2 hc2; have HC4 := Lib.hid hc2; clear hc2))
              go_roundg gg
              case measure => omega
              case rel =>
                refine ⟨i + 1, by have := HI.out; omega, ?_, ?_, rfl, Lib.hid ?_⟩
                · rw [HNX.out, List.length_append]; rfl
                · rw [HNX.out]; rfl
                · rw [HNX.out, List.length_append, List.length_singleton, HPR.out, ← List.append_assoc, ← List.append_assoc]
                  have h4 := HC4.out
                  rw [← HN1.out, ← HN2.out] at h4
                  exact two8_app h4
          · have hnx := cutS_go hst
            rw [not_or] at hst
            have hlt2 : i < x.length := by omega
            have e1 : ((i : Int) == (x.length : Int)) = false := by rw [beq_eq_false_iff_ne]; omega
            have hxi : x.getD i 0 = x[i] := by simp [List.getD, hlt2]
            have e2 : ((x[i].toNat : Int) == 32) = false := by
              rw [beq_eq_false_iff_ne]
              intro h
              apply hst.2
              rw [hxi]
              exact UInt8.toNat_inj.1 (by show x[i].toNat = 32; omega)
            have HC3 : Hid (Two8 w1 _ _ (prsTo r ++ prsR r (cutS x (i + 1)).1.length) (codesTo r ++ (cutS x (i + 1)).1) wr) := Lib.hid (by rw [hnx]; exact HC2.out)
            have HNX := Lib.hid hnx
            clear hst hnx hxi hcl h63 HC2
            go_wp2_with fail
            go_roundg gg
            case measure => omega
            case rel => exact ⟨i + 1, by omega, by rw [HNX.out], by rw [HNX.out], rfl, HC3⟩
end Go.Proofs.YtcojnigkgbmbmaaGreatDoor
namespace Go.Proofs.YtcojnigkgbmbmaaGreatDoor
open Go Go.RowKit
attribute [local go_sem] Oper.semAt_some
set_option maxRecDepth 100000 in
theorem ref09_order (w : World) : Calls Tryz.prog 140 #[] w fun e w' => (∃ g, e = .returned (.slice (some ⟨g, 0, none⟩) 64 64) ∧ w.heap.size ≤ g ∧ Blk w' g 3 csZ) ∧ Below w.heap.size w w' := by
  go_enter Tryz.func140, Tryz.ntmps140
  go_wp2_with fail
  go_ret
  exact ⟨⟨_, rfl, Nat.le_refl _, Blk.new w 3 csZ⟩, (Below.refl _ _).alloc (Nat.le_refl _) _⟩
theorem run_mk64 (W : World) : (Instr.makeSlice 137 (.int .i64 64) (.int .i64 64)).run Tryz.prog W = .ok (.slice (some ⟨W.heap.size, 0, none⟩) 64 64) (W.alloc (.cells (zeros64.map intV).toArray 3)) := by
  kernel_rfl
def SprR (l : List (Int × Int)) (fr : Int) (w : World) (e : Ending) (w' : World) : Prop := ∃ v, e = .returned (.tuple #[v, .int .i64 (spreadP l fr)]) ∧ Below w.heap.size w w' ∧
  (spreadP l fr = 0 → ∃ b, v = .slice (some ⟨b, 0, none⟩) 64 64 ∧ Blk w' b 3 ((spreadL l fr).map intV).toArray) ∧ (spreadP l fr ≠ 0 → v = .slice none 0 0)
set_option maxRecDepth 100000 in
set_option maxHeartbeats 16000000 in
theorem ref09_Spread (l : List (Int × Int)) (A : Option Addr) (n c : Nat) (fr : Int) (hfr : fr = 0 ∨ fr = 1) (w : World) (hS : Sl w A (rowC pairC l)) (hn : l.length = n) (hsz : n ≤ 1099511627776) :
    Calls Tryz.prog 108 #[.slice A n c, .int .i64 fr] w (SprR l fr w) := by
  obtain ⟨E, hE⟩ : ∃ E, spreadP l fr = E := ⟨_, rfl⟩
  obtain ⟨BL, hBL⟩ : ∃ B, spreadL l fr = B := ⟨_, rfl⟩
  unfold SprR
  rw [hE, hBL]
  have HE := Lib.hid hE; have HBL := Lib.hid hBL; have HS := Lib.hid hS; have HN := Lib.hid hn
  have CO := Lib.hid (fun W => ref09_order W)
  clear hE hBL hS hn
  rcases hfr with rfl | rfl
  all_goals
    go_enter Tryz.func108, Tryz.ntmps108
    go_wp2_with fail
    refine wp_region_treeN (fun _ => True) 6 (.take 1 (.fork 0 (.step 2 (.step 3 (.step 4 (.step 5 .done)))) 2 (.step 0 (.step 3 (.step 4 (.step 5 .done)))))) (by kernel_rfl) (by kernel_rfl) (by simp only [Pln.out, Array.getD_eq_getD_getElem?, List.getElem?_toArray, List.getElem?_cons_zero, List.getElem?_cons_succ, Option.getD_some]; rfl) (by simp only [List.map_cons, List.map_nil]; rfl) (trivial) (fun PE hPE => ?_)
    refine tree_take (v := ?_) rfl (by rfl) ?_ ?_
    rotate_left
    · intro _ hSw; (try dsimp only at hSw); go_simp; (try with_reducible rfl)
    simp only [List.setIfInBounds_toArray, List.set_cons_zero, List.set_cons_succ]
    have hb0 : Below w.heap.size w w.drew := (Below.refl _ _).drew
    refine ⟨?_, ?_⟩
    · refine tree_value (v := .slice (some ⟨w.heap.size, 0, none⟩) 64 64) (w' := w.drew.alloc (.cells (zeros64.map intV).toArray 3)) rfl (by rfl) ?_ trivial ?_
      · go_simp
        rw [run_mk64]
        rfl
      simp only [List.setIfInBounds_toArray, List.set_cons_zero, List.set_cons_succ]
      refine tree_call (f := 140) (args := #[]) rfl (by rfl) (by first | (go_simp; done) | (go_simp; rfl)) (CO.out _) ?_
      rintro e w2 ⟨⟨b8, rfl, hb8, hB8⟩, hb2⟩
      refine ⟨_, rfl, _, fun _ h => h, trivial, ?_⟩
      simp only [List.setIfInBounds_toArray, List.set_cons_zero, List.set_cons_succ]
      refine tree_value (v := ?_) (w' := ?_) rfl (by rfl) ?_ ?_ ?_
      rotate_left 2
      · go_simp; (try (constructor <;> with_reducible rfl))
      · trivial
      simp only [List.setIfInBounds_toArray, List.set_cons_zero, List.set_cons_succ]
      refine tree_value (v := ?_) (w' := ?_) rfl (by rfl) ?_ ?_ ?_
      rotate_left 2
      · go_simp; (try (constructor <;> with_reducible rfl))
      · trivial
      simp only [List.setIfInBounds_toArray, List.set_cons_zero, List.set_cons_succ]
      refine tree_value (v := ?_) (w' := ?_) rfl (by rfl) ?_ ?_ ?_
      rotate_left 2
      · go_simp; (try (constructor <;> with_reducible rfl))
      · trivial
      simp only [List.setIfInBounds_toArray, List.set_cons_zero, List.set_cons_succ]
      refine hPE _ _ ?_
      clear hPE PE
      simp only [List.drop_succ_cons, List.drop_zero, List.drop_nil]
      have hz1 := (Blk.new w.drew 3 (zeros64.map intV).toArray).below hb2 (Blk.new w.drew 3 (zeros64.map intV).toArray).lt
      have hb1 := hb0.alloc hb0.size (.cells (zeros64.map intV).toArray 3)
      have HC0 : Hid (Cons w [(w.heap.size, 3, (zeros64.map intV).toArray), (b8, 3, csZ)] [] w2) := Lib.hid ⟨hb1.trans (hb2.mono hb1.size), CellsAt.cons hz1 (CellsAt.cons hB8 (cellsAt_nil _)), rowsAt_nil _⟩
      have hne : w.heap.size + 1 ≤ b8 := by simpa using hb8
      have HGB : Hid (w.heap.size ≤ w.heap.size ∧ b8 ≠ w.heap.size) := Lib.hid ⟨Nat.le_refl _, by omega⟩
      clear hz1 hb1 hb0 hb2 hB8 hb8 hne
      obtain ⟨g, hg⟩ : ∃ g, w.heap.size = g := ⟨_, rfl⟩
      rw [hg] at HC0 ⊢
      have HG : Hid (w.heap.size ≤ g ∧ b8 ≠ g) := Lib.hid ⟨by omega, by rw [← hg]; exact HGB.out.2⟩
      have HQB : Hid (∀ W : World, Below w.heap.size w W → Below g w W) := Lib.hid (fun W h => by rw [← hg]; exact h)
      clear HGB
      go_wp2_with fail
      refine ⟨rfl, ?_⟩
      go_wp2_with fail
      go_loopg [7, 9] n (fun gg v7 v9 => fun wr => ∃ (j a : Nat) (B : List Int), j + gg = n ∧ v7 = .int .i64 (a : Int) ∧ v9 = .int .i64 (j : Int) ∧ a ≤ 64 ∧ B.length = 64 ∧ Hid (spreadP (l.drop j) (a : Int) = E) ∧ Hid (spreadB B (l.drop j) (a : Int) = BL) ∧ Hid (Cons w [(g, 3, (B.map intV).toArray), (b8, 3, csZ)] [] wr))
      case atStart => exact ⟨0, _, zeros64, by omega, rfl, rfl, by decide, by decide, HE, HBL, HC0⟩
      case round =>
        obtain ⟨j, a, B, hj, rfl, rfl, ha, hBl, HP, HQ, HC⟩ := hrel
        cases gk with
        | zero =>
          have hlt : ¬ ((j : Int) < (n : Int)) := by omega
          have hp := HP.out
          have hq := HQ.out
          rw [List.drop_eq_nil_of_le (by rw [HN.out]; omega)] at hp hq
          have HP2 := Lib.hid (show (0 : Int) = E from hp)
          have HQ2 := Lib.hid (show B = BL from hq)
          clear hp hq
          go_wp2_with fail
          go_ret2
          refine ⟨_, by rw [← HP2.out]; rfl, (by first | exact HC.out.1 | exact HQB.out _ HC.out.1), fun _ => ⟨g, rfl, by rw [← HQ2.out]; exact HC.out.2.1.head⟩, fun h => absurd HP2.out.symm h⟩
        | succ gg =>
          have hlt : ((j : Int) < (n : Int)) := by omega
          have hjl : j < l.length := by rw [HN.out]; omega
          obtain ⟨ad, rfl, hab, c0, c1⟩ := sl_pair (HS.out.below HC.out.1) j hjl
          have hp := HP.out
          have hq := HQ.out
          rw [List.drop_eq_getElem_cons hjl] at hp hq
          obtain ⟨⟨p1, p2⟩, hpe⟩ : ∃ p, l[j] = p := ⟨_, rfl⟩
          rw [hpe] at c0 c1 hp hq
          rw [spread_cons] at hp
          dsimp only at c0 c1 hp
          have hq : spreadB (B.set (zzAt ((a : Int) + p1).toNat).toNat p2) (l.drop (j + 1)) ((a : Int) + p1 + 1) = BL := hq
          have HPP := Lib.hid hp; have HQQ := Lib.hid hq; have HBl := Lib.hid hBl
          have hw1 : IntKind.i64.wrap ((j : Int) + 1) = (j : Int) + 1 := by rw [IntKind.wrap_i64]; omega
          have hw63 : IntKind.i64.wrap (63 - (a : Int)) = 63 - (a : Int) := by rw [IntKind.wrap_i64]; omega
          clear hp hq hpe hjl hBl
          cases hz : (p2 == 0) with
          | true =>
            have HEE := Lib.hid (show (10 : Int) = E by have h := HPP.out; rw [hz] at h; exact h)
            go_wp2_with fail
            go_ret2
            exact ⟨_, by rw [← HEE.out]; rfl, (by first | exact HC.out.1 | exact HQB.out _ HC.out.1), fun h => absurd (HEE.out.trans h) (by decide), fun _ => rfl⟩
          | false =>
            by_cases hl1 : p2 < -127
            · have e1 : decide (-127 ≤ p2) = false := by simp; omega
              have e2 : decide (p2 < -127) = true := by simpa using hl1
              have HEE := Lib.hid (show (10 : Int) = E by have h := HPP.out; rw [hz, e1] at h; exact h)
              clear hl1
              go_wp2_with fail
              go_ret2
              exact ⟨_, by rw [← HEE.out]; rfl, (by first | exact HC.out.1 | exact HQB.out _ HC.out.1), fun h => absurd (HEE.out.trans h) (by decide), fun _ => rfl⟩
            have e1 : decide (-127 ≤ p2) = true := by simp; omega
            have e2 : decide (p2 < -127) = false := by simpa using hl1
            by_cases hl2 : 127 < p2
            · have e3 : decide (p2 ≤ 127) = false := by simp; omega
              have e4 : decide (127 < p2) = true := by simpa using hl2
              have HEE := Lib.hid (show (10 : Int) = E by have h := HPP.out; rw [hz, e1, e3] at h; exact h)
              clear hl1 hl2
              go_wp2_with fail
              go_ret2
              exact ⟨_, by rw [← HEE.out]; rfl, (by first | exact HC.out.1 | exact HQB.out _ HC.out.1), fun h => absurd (HEE.out.trans h) (by decide), fun _ => rfl⟩
            have e3 : decide (p2 ≤ 127) = true := by simp; omega
            have e4 : decide (127 < p2) = false := by simpa using hl2
            by_cases hr0 : p1 < 0
            · have d0 : decide (p1 < 0) = true := decide_eq_true hr0
              have HEE := Lib.hid (show (11 : Int) = E by have h := HPP.out; rw [hz, e1, e3, d0] at h; exact h)
              clear hr0 hl1 hl2
              go_wp2_with fail
              go_ret2
              exact ⟨_, by rw [← HEE.out]; rfl, (by first | exact HC.out.1 | exact HQB.out _ HC.out.1), fun h => absurd (HEE.out.trans h) (by decide), fun _ => rfl⟩
            have d0 : decide (p1 < 0) = false := decide_eq_false hr0
            by_cases hr1 : 63 - (a : Int) < p1
            · have d1 : decide (63 - (a : Int) < p1) = true := decide_eq_true hr1
              have HEE := Lib.hid (show (11 : Int) = E by have h := HPP.out; rw [hz, e1, e3, d0, d1] at h; exact h)
              clear hr0 hr1 hl1 hl2
              go_wp2_with fail
              go_ret2
              exact ⟨_, by rw [← HEE.out]; rfl, (by first | exact HC.out.1 | exact HQB.out _ HC.out.1), fun h => absurd (HEE.out.trans h) (by decide), fun _ => rfl⟩
            have d1 : decide (63 - (a : Int) < p1) = false := decide_eq_false hr1
            have HEE := Lib.hid (show spreadP (l.drop (j + 1)) ((a : Int) + p1 + 1) = E by have h := HPP.out; rw [hz, e1, e3, d0, d1] at h; exact h)
            obtain ⟨r, rfl⟩ := Int.eq_ofNat_of_zero_le (by omega : 0 ≤ p1)
            obtain ⟨q, hqd⟩ : ∃ q, q = a + r := ⟨_, rfl⟩
            have hq63 : q ≤ 63 := by omega
            obtain ⟨z, hze⟩ : ∃ z : Nat, zzAt q = (z : Int) := ⟨(zzAt q).toNat, by have := zzAt_range q (by omega); omega⟩
            have hz63 : z ≤ 63 := by have := zzAt_range q (by omega); omega
            have hqi : (a : Int) + (r : Int) = (q : Int) := by omega
            have HQ3 := Lib.hid (show spreadB (B.set z p2) (l.drop (j + 1)) ((q : Int) + 1) = BL by have h := HQQ.out; rw [hqi, Int.toNat_natCast, hze, Int.toNat_natCast] at h; exact h)
            rw [hqi] at HEE
            have HCD := Lib.hid (cons_drew HC.out)
            have x8 : wr.drew.cell? ⟨b8, q, none⟩ = some (.int .i64 (z : Int)) := by
              have h := HCD.out.2.1.tail.head
              dsimp only at h
              rw [h.cell, csZ_at q (by omega), hze]
            have fz := HCD.out.2.1.head.frozen z
            obtain ⟨vz, xz⟩ : ∃ vz, wr.drew.cell? ⟨g, z, none⟩ = some vz := by
              have h := HCD.out.2.1.head
              dsimp only at h
              rw [h.cell, List.getElem?_toArray]
              exact ⟨_, List.getElem?_eq_getElem (by rw [List.length_map, HBl.out]; omega)⟩
            have hqn : ¬ ((q : Int) < 0) := by omega
            have hq64 : (q : Int) < 64 := by omega
            have hzn : ¬ ((z : Int) < 0) := by omega
            have hz64 : (z : Int) < 64 := by omega
            have hw2 : IntKind.i64.wrap ((q : Int) + 1) = (q : Int) + 1 := by rw [IntKind.wrap_i64]; omega
            have hw3 : IntKind.i64.wrap ((a : Int) + (r : Int)) = (q : Int) := by rw [hqi, IntKind.wrap_i64]; omega
            have HQD := Lib.hid hqd
            have c2 : wr.drew.cell? ⟨(ad.add (j * 2)).block, (ad.add (j * 2)).off + 1, none⟩ = some (.int .i64 p2) := c1
            clear hr0 hr1 hze hqd HPP HQQ hl1 hl2
            go_wp2_with fail
            refine wp_region_treeN (fun w' => w'.cell? ⟨b8, q, none⟩ = some (.int .i64 (z : Int)) ∧ w'.cell? ⟨(ad.add (j * 2)).block, (ad.add (j * 2)).off + 1, none⟩ = some (.int .i64 p2)) 11 (.take 0 (.take 1 (.take 2 (.take 3 (.take 4 (.take 5 (.take 6 (.take 7 (.take 8 (.take 9 (.take 10 .done))))))))))) (by kernel_rfl) (by kernel_rfl) (by simp only [Pln.out, Array.getD_eq_getD_getElem?, List.getElem?_toArray, List.getElem?_cons_zero, List.getElem?_cons_succ, Option.getD_some]; rfl) (by simp only [List.map_cons, List.map_nil]; rfl) (⟨x8, c2⟩) (fun PE hPE => ?_)
            iterate 11
              refine tree_take (v := ?_) rfl (by rfl) ?_ ?_
              rotate_left
              · intro _ hSw; (try dsimp only at hSw); obtain ⟨s0, s1⟩ := hSw; go_simp; (try with_reducible rfl)
              simp only [List.setIfInBounds_toArray, List.set_cons_zero, List.set_cons_succ]
            refine hPE _ _ ?_
            clear hPE PE
            simp only [List.drop_succ_cons, List.drop_zero, List.drop_nil]
            go_wp2_with fail
            refine ⟨rfl, ?_⟩
            go_wp2_with fail
            go_roundg gg
            case measure => omega
            case rel =>
              refine ⟨j + 1, q + 1, B.set z p2, by omega, by simp, by simp, by omega, by rw [List.length_set]; exact HBl.out, HEE, HQ3, Lib.hid ?_⟩
              have h := cons_set HCD.out HG.out.1 z (.int .i64 p2) (by simpa using HG.out.2) (by simp)
              rw [List.setIfInBounds_toArray, show ((B.map intV).set z (Value.int .i64 p2)) = (B.set z p2).map intV by rw [List.map_set]; rfl] at h
              exact h
    · refine tree_call (f := 140) (args := #[]) rfl (by rfl) (by first | (go_simp; done) | (go_simp; rfl)) (CO.out _) ?_
      rintro e w2 ⟨⟨b8, rfl, hb8, hB8⟩, hb2⟩
      refine ⟨_, rfl, _, fun _ h => h, trivial, ?_⟩
      simp only [List.setIfInBounds_toArray, List.set_cons_zero, List.set_cons_succ]
      refine tree_value (v := .slice (some ⟨w2.heap.size, 0, none⟩) 64 64) (w' := w2.alloc (.cells (zeros64.map intV).toArray 3)) rfl (by rfl) ?_ trivial ?_
      · go_simp
        rw [run_mk64]
        rfl
      simp only [List.setIfInBounds_toArray, List.set_cons_zero, List.set_cons_succ]
      refine tree_value (v := ?_) (w' := ?_) rfl (by rfl) ?_ ?_ ?_
      rotate_left 2
      · go_simp; (try (constructor <;> with_reducible rfl))
      · trivial
      simp only [List.setIfInBounds_toArray, List.set_cons_zero, List.set_cons_succ]
      refine tree_value (v := ?_) (w' := ?_) rfl (by rfl) ?_ ?_ ?_
      rotate_left 2
      · go_simp; (try (constructor <;> with_reducible rfl))
      · trivial
      simp only [List.setIfInBounds_toArray, List.set_cons_zero, List.set_cons_succ]
      refine tree_value (v := ?_) (w' := ?_) rfl (by rfl) ?_ ?_ ?_
      rotate_left 2
      · go_simp; (try (constructor <;> with_reducible rfl))
      · trivial
      simp only [List.setIfInBounds_toArray, List.set_cons_zero, List.set_cons_succ]
      refine hPE _ _ ?_
      clear hPE PE
      simp only [List.drop_succ_cons, List.drop_zero, List.drop_nil]
      have hb1 := hb0.trans (hb2.mono hb0.size)
      have HC0 : Hid (Cons w [(w2.heap.size, 3, (zeros64.map intV).toArray), (b8, 3, csZ)] [] (w2.alloc (.cells (zeros64.map intV).toArray 3))) := Lib.hid ⟨hb1.alloc hb1.size _, CellsAt.cons (Blk.new _ _ _) (CellsAt.cons (hB8.alloc _) (cellsAt_nil _)), rowsAt_nil _⟩
      have HQB : Hid (∀ W : World, Below w.heap.size w W → Below w.heap.size w W) := Lib.hid (fun W h => h)
      have HG : Hid (w.heap.size ≤ w2.heap.size ∧ b8 ≠ w2.heap.size) := Lib.hid ⟨hb1.size, by have := hB8.lt; omega⟩
      clear hb1 hb0 hb2 hB8 hb8
      generalize w2.alloc (.cells (zeros64.map intV).toArray 3) = w4 at HC0 ⊢
      generalize w2.heap.size = g at HC0 HG ⊢
      go_wp2_with fail
      refine ⟨rfl, ?_⟩
      go_wp2_with fail
      go_loopg [7, 9] n (fun gg v7 v9 => fun wr => ∃ (j a : Nat) (B : List Int), j + gg = n ∧ v7 = .int .i64 (a : Int) ∧ v9 = .int .i64 (j : Int) ∧ a ≤ 64 ∧ B.length = 64 ∧ Hid (spreadP (l.drop j) (a : Int) = E) ∧ Hid (spreadB B (l.drop j) (a : Int) = BL) ∧ Hid (Cons w [(g, 3, (B.map intV).toArray), (b8, 3, csZ)] [] wr))
      case atStart => exact ⟨0, _, zeros64, by omega, rfl, rfl, by decide, by decide, HE, HBL, HC0⟩
      case round =>
        obtain ⟨j, a, B, hj, rfl, rfl, ha, hBl, HP, HQ, HC⟩ := hrel
        cases gk with
        | zero =>
          have hlt : ¬ ((j : Int) < (n : Int)) := by omega
          have hp := HP.out
          have hq := HQ.out
          rw [List.drop_eq_nil_of_le (by rw [HN.out]; omega)] at hp hq
          have HP2 := Lib.hid (show (0 : Int) = E from hp)
          have HQ2 := Lib.hid (show B = BL from hq)
          clear hp hq
          go_wp2_with fail
          go_ret2
          refine ⟨_, by rw [← HP2.out]; rfl, (by first | exact HC.out.1 | exact HQB.out _ HC.out.1), fun _ => ⟨g, rfl, by rw [← HQ2.out]; exact HC.out.2.1.head⟩, fun h => absurd HP2.out.symm h⟩
        | succ gg =>
          have hlt : ((j : Int) < (n : Int)) := by omega
          have hjl : j < l.length := by rw [HN.out]; omega
          obtain ⟨ad, rfl, hab, c0, c1⟩ := sl_pair (HS.out.below HC.out.1) j hjl
          have hp := HP.out
          have hq := HQ.out
          rw [List.drop_eq_getElem_cons hjl] at hp hq
          obtain ⟨⟨p1, p2⟩, hpe⟩ : ∃ p, l[j] = p := ⟨_, rfl⟩
          rw [hpe] at c0 c1 hp hq
          rw [spread_cons] at hp
          dsimp only at c0 c1 hp
          have hq : spreadB (B.set (zzAt ((a : Int) + p1).toNat).toNat p2) (l.drop (j + 1)) ((a : Int) + p1 + 1) = BL := hq
          have HPP := Lib.hid hp; have HQQ := Lib.hid hq; have HBl := Lib.hid hBl
          have hw1 : IntKind.i64.wrap ((j : Int) + 1) = (j : Int) + 1 := by rw [IntKind.wrap_i64]; omega
          have hw63 : IntKind.i64.wrap (63 - (a : Int)) = 63 - (a : Int) := by rw [IntKind.wrap_i64]; omega
          clear hp hq hpe hjl hBl
          cases hz : (p2 == 0) with
          | true =>
            have HEE := Lib.hid (show (10 : Int) = E by have h := HPP.out; rw [hz] at h; exact h)
            go_wp2_with fail
            go_ret2
            exact ⟨_, by rw [← HEE.out]; rfl, (by first | exact HC.out.1 | exact HQB.out _ HC.out.1), fun h => absurd (HEE.out.trans h) (by decide), fun _ => rfl⟩
          | false =>
            by_cases hl1 : p2 < -127
            · have e1 : decide (-127 ≤ p2) = false := by simp; omega
              have e2 : decide (p2 < -127) = true := by simpa using hl1
              have HEE := Lib.hid (show (10 : Int) = E by have h := HPP.out; rw [hz, e1] at h; exact h)
              clear hl1
              go_wp2_with fail
              go_ret2
              exact ⟨_, by rw [← HEE.out]; rfl, (by first | exact HC.out.1 | exact HQB.out _ HC.out.1), fun h => absurd (HEE.out.trans h) (by decide), fun _ => rfl⟩
            have e1 : decide (-127 ≤ p2) = true := by simp; omega
            have e2 : decide (p2 < -127) = false := by simpa using hl1
            by_cases hl2 : 127 < p2
            · have e3 : decide (p2 ≤ 127) = false := by simp; omega
              have e4 : decide (127 < p2) = true := by simpa using hl2
              have HEE := Lib.hid (show (10 : Int) = E by have h := HPP.out; rw [hz, e1, e3] at h; exact h)
              clear hl1 hl2
              go_wp2_with fail
              go_ret2
              exact ⟨_, by rw [← HEE.out]; rfl, (by first | exact HC.out.1 | exact HQB.out _ HC.out.1), fun h => absurd (HEE.out.trans h) (by decide), fun _ => rfl⟩
            have e3 : decide (p2 ≤ 127) = true := by simp; omega
            have e4 : decide (127 < p2) = false := by simpa using hl2
            by_cases hr0 : p1 < 0
            · have d0 : decide (p1 < 0) = true := decide_eq_true hr0
              have HEE := Lib.hid (show (11 : Int) = E by have h := HPP.out; rw [hz, e1, e3, d0] at h; exact h)
              clear hr0 hl1 hl2
              go_wp2_with fail
              go_ret2
              exact ⟨_, by rw [← HEE.out]; rfl, (by first | exact HC.out.1 | exact HQB.out _ HC.out.1), fun h => absurd (HEE.out.trans h) (by decide), fun _ => rfl⟩
            have d0 : decide (p1 < 0) = false := decide_eq_false hr0
            by_cases hr1 : 63 - (a : Int) < p1
            · have d1 : decide (63 - (a : Int) < p1) = true := decide_eq_true hr1
              have HEE := Lib.hid (show (11 : Int) = E by have h := HPP.out; rw [hz, e1, e3, d0, d1] at h; exact h)
              clear hr0 hr1 hl1 hl2
              go_wp2_with fail
              go_ret2
              exact ⟨_, by rw [← HEE.out]; rfl, (by first | exact HC.out.1 | exact HQB.out _ HC.out.1), fun h => absurd (HEE.out.trans h) (by decide), fun _ => rfl⟩
            have d1 : decide (63 - (a : Int) < p1) = false := decide_eq_false hr1
            have HEE := Lib.hid (show spreadP (l.drop (j + 1)) ((a : Int) + p1 + 1) = E by have h := HPP.out; rw [hz, e1, e3, d0, d1] at h; exact h)
            obtain ⟨r, rfl⟩ := Int.eq_ofNat_of_zero_le (by omega : 0 ≤ p1)
            obtain ⟨q, hqd⟩ : ∃ q, q = a + r := ⟨_, rfl⟩
            have hq63 : q ≤ 63 := by omega
            obtain ⟨z, hze⟩ : ∃ z : Nat, zzAt q = (z : Int) := ⟨(zzAt q).toNat, by have := zzAt_range q (by omega); omega⟩
            have hz63 : z ≤ 63 := by have := zzAt_range q (by omega); omega
            have hqi : (a : Int) + (r : Int) = (q : Int) := by omega
            have HQ3 := Lib.hid (show spreadB (B.set z p2) (l.drop (j + 1)) ((q : Int) + 1) = BL by have h := HQQ.out; rw [hqi, Int.toNat_natCast, hze, Int.toNat_natCast] at h; exact h)
            rw [hqi] at HEE
            have HCD := Lib.hid (cons_drew HC.out)
            have x8 : wr.drew.cell? ⟨b8, q, none⟩ = some (.int .i64 (z : Int)) := by
              have h := HCD.out.2.1.tail.head
              dsimp only at h
              rw [h.cell, csZ_at q (by omega), hze]
            have fz := HCD.out.2.1.head.frozen z
            obtain ⟨vz, xz⟩ : ∃ vz, wr.drew.cell? ⟨g, z, none⟩ = some vz := by
              have h := HCD.out.2.1.head
              dsimp only at h
              rw [h.cell, List.getElem?_toArray]
              exact ⟨_, List.getElem?_eq_getElem (by rw [List.length_map, HBl.out]; omega)⟩
            have hqn : ¬ ((q : Int) < 0) := by omega
            have hq64 : (q : Int) < 64 := by omega
            have hzn : ¬ ((z : Int) < 0) := by omega
            have hz64 : (z : Int) < 64 := by omega
            have hw2 : IntKind.i64.wrap ((q : Int) + 1) = (q : Int) + 1 := by rw [IntKind.wrap_i64]; omega
            have hw3 : IntKind.i64.wrap ((a : Int) + (r : Int)) = (q : Int) := by rw [hqi, IntKind.wrap_i64]; omega
            have HQD := Lib.hid hqd
            have c2 : wr.drew.cell? ⟨(ad.add (j * 2)).block, (ad.add (j * 2)).off + 1, none⟩ = some (.int .i64 p2) := c1
            clear hr0 hr1 hze hqd HPP HQQ hl1 hl2
            go_wp2_with fail
            refine wp_region_treeN (fun w' => w'.cell? ⟨b8, q, none⟩ = some (.int .i64 (z : Int)) ∧ w'.cell? ⟨(ad.add (j * 2)).block, (ad.add (j * 2)).off + 1, none⟩ = some (.int .i64 p2)) 11 (.take 0 (.take 1 (.take 2 (.take 3 (.take 4 (.take 5 (.take 6 (.take 7 (.take 8 (.take 9 (.take 10 .done))))))))))) (by kernel_rfl) (by kernel_rfl) (by simp only [Pln.out, Array.getD_eq_getD_getElem?, List.getElem?_toArray, List.getElem?_cons_zero, List.getElem?_cons_succ, Option.getD_some]; rfl) (by simp only [List.map_cons, List.map_nil]; rfl) (⟨x8, c2⟩) (fun PE hPE => ?_)
            iterate 11
              refine tree_take (v := ?_) rfl (by rfl) ?_ ?_
              rotate_left
              · intro _ hSw; (try dsimp only at hSw); obtain ⟨s0, s1⟩ := hSw; go_simp; (try with_reducible rfl)
              simp only [List.setIfInBounds_toArray, List.set_cons_zero, List.set_cons_succ]
            refine hPE _ _ ?_
            clear hPE PE
            simp only [List.drop_succ_cons, List.drop_zero, List.drop_nil]
            go_wp2_with fail
            refine ⟨rfl, ?_⟩
            go_wp2_with fail
            go_roundg gg
            case measure => omega
            case rel =>
              refine ⟨j + 1, q + 1, B.set z p2, by omega, by simp, by simp, by omega, by rw [List.length_set]; exact HBl.out, HEE, HQ3, Lib.hid ?_⟩
              have h := cons_set HCD.out HG.out.1 z (.int .i64 p2) (by simpa using HG.out.2) (by simp)
              rw [List.setIfInBounds_toArray, show ((B.map intV).set z (Value.int .i64 p2)) = (B.set z p2).map intV by rw [List.map_set]; rfl] at h
              exact h
end Go.Proofs.YtcojnigkgbmbmaaGreatDoor
namespace Go.Proofs.YtcojnigkgbmbmaaGreatDoor
open Go Go.RowKit
end Go.Proofs.YtcojnigkgbmbmaaGreatDoor
