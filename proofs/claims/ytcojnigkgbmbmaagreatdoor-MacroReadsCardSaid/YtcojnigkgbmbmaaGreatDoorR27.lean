/- Ref08, Ref09, Ref08b -/
import Derived.Test.YtcojnigkgbmbmaaGreatDoorR12
import Derived.Test.YtcojnigkgbmbmaaGreatDoorR02
import Derived.Test.YtcojnigkgbmbmaaGreatDoorR10
import Derived.Test.YtcojnigkgbmbmaaGreatDoorR25
namespace Go.Proofs.YtcojnigkgbmbmaaGreatDoor
open Go Go.RowKit
def cutS (x : List UInt8) : Nat → List (List UInt8) × Nat
  | 0 => ([], 0)
  | i + 1 => if i = x.length ∨ x.getD i 0 = 32 then ((cutS x i).1 ++ [(x.take i).drop (cutS x i).2], i + 1) else cutS x i
def cutR (x : List UInt8) : List (List UInt8) := (cutS x (x.length + 1)).1
theorem cutS_le (x : List UInt8) : ∀ i, (cutS x i).2 ≤ i ∧ (cutS x i).1.length ≤ i
  | 0 => ⟨Nat.le_refl _, Nat.le_refl _⟩
  | i + 1 => by
    have h := cutS_le x i
    unfold cutS
    split
    · refine ⟨Nat.le_refl _, ?_⟩
      rw [List.length_append]
      simp
      omega
    · omega
def prsR (q : Nat) (n : Nat) : List (Int × Int) := (List.range n).map fun k : Nat => ((q : Int), (k : Int) + 1)
def codesTo (r : Nat) : List (List UInt8) := (rowL.take r).flatMap cutR
def prsTo (r : Nat) : List (Int × Int) := (List.range r).flatMap fun q => prsR q (cutR (rowL.getD q [])).length
theorem codesTo_succ (r : Nat) (h : r < rowL.length) : codesTo (r + 1) = codesTo r ++ cutR rowL[r] := by
  unfold codesTo
  rw [List.take_add_one, List.getElem?_eq_getElem h, List.flatMap_append]
  simp
theorem prsTo_succ (r : Nat) (h : r < rowL.length) : prsTo (r + 1) = prsTo r ++ prsR r (cutR rowL[r]).length := by
  unfold prsTo
  rw [List.range_succ, List.flatMap_append]
  simp [List.getD_eq_getElem?_getD, List.getElem?_eq_getElem h]
theorem prsR_succ (q n : Nat) : prsR q (n + 1) = prsR q n ++ [((q : Int), (n : Int) + 1)] := by simp [prsR, List.range_succ]
theorem prsR_len (q n : Nat) : (prsR q n).length = n := by simp [prsR]
def codes8 : List (List UInt8) := (tabL false).map (·.2)
def prs8 : List (Int × Int) := (tabL false).map (·.1)
theorem codesTo_all : codesTo 27 = codes8 := by kernel_rfl
theorem prsTo_all : prsTo 27 = prs8 := by kernel_rfl
theorem codes8_len : codes8.length = 63 := by kernel_rfl
theorem prs8_len : prs8.length = 63 := by kernel_rfl
theorem rowL_le : rowL.all (fun x => decide (x.length ≤ 200)) = true := by kernel_rfl
set_option maxRecDepth 100000 in
theorem ref08_rows (w : World) : Calls Tryz.prog 147 #[] w fun e w' => (∃ A, e = .returned (.slice A 27 27) ∧ Sl w' A (rowL.map strV)) ∧ Below w.heap.size w w' := by
  go_enter Tryz.func147, Tryz.ntmps147
  go_wp2_with fail
  go_ret
  exact ⟨⟨_, rfl, Blk.sl (Blk.new w 9 (rowL.map strV).toArray) 0⟩, (Below.refl _ _).alloc (Nat.le_refl _) _⟩
theorem pairC_app (L : List (Int × Int)) (p : Int × Int) : rowC pairC (L ++ [p]) = rowC pairC L ++ [.int .i64 p.1, .int .i64 p.2] := by rw [rowC_app, rowC_one]; rfl
/-- the two lists. -/
def Two8 (w : World) (v1 v2 : Value) (P : List (Int × Int)) (C : List (List UInt8)) (W : World) : Prop := Cons w [] [⟨w.heap.size, 109, 2, v1, P.length, rowC pairC P⟩, ⟨w.heap.size, 9, 1, v2, C.length, C.map strV⟩] W
def CodedPost (w : World) (e : Ending) (w' : World) : Prop := ∃ w1 v1 v2, Below w.heap.size w w1 ∧ e = .returned (.tuple #[v1, v2]) ∧ Two8 w1 v1 v2 prs8 codes8 w'
theorem lens8 : (List.range 28).all (fun r => decide ((prsTo r).length ≤ 63) && decide ((codesTo r).length ≤ 63)) = true := by kernel_rfl
theorem cutS_stop {x : List UInt8} {i : Nat} (h : i = x.length ∨ x.getD i 0 = 32) : cutS x (i + 1) = ((cutS x i).1 ++ [(x.take i).drop (cutS x i).2], i + 1) := if_pos h
theorem cutS_go {x : List UInt8} {i : Nat} (h : ¬ (i = x.length ∨ x.getD i 0 = 32)) : cutS x (i + 1) = cutS x i := if_neg h
theorem two8_app {w : World} {v1 v2 : Value} {P : List (Int × Int)} {C : List (List UInt8)} {p : Int × Int} {c : List UInt8} {W : World}
    (h : Cons w [] [⟨w.heap.size, 9, 1, v2, C.length + 1, C.map strV ++ [strV c]⟩, ⟨w.heap.size, 109, 2, v1, P.length + 1, rowC pairC P ++ [.int .i64 p.1, .int .i64 p.2]⟩] W) : Two8 w v1 v2 (P ++ [p]) (C ++ [c]) W := by
  unfold Two8
  rw [pairC_app, List.map_append, List.length_append, List.length_append]
  exact cons_swap h
set_option maxRecDepth 100000 in
set_option maxHeartbeats 4000000 in
theorem ref08_Coded (w : World) : Calls Tryz.prog 122 #[] w (CodedPost w) := by
  go_enter Tryz.func122, Tryz.ntmps122
  go_wp2_with fail
  refine (ref08_rows w).mono ?_
  rintro e w1 ⟨⟨A, rfl, hS⟩, hb1⟩
  have HS := Lib.hid hS; have HB1 := Lib.hid hb1
  have HC0 : Hid (Two8 w1 (.slice none 0 0) (.slice none 0 0) (prsTo 0) (codesTo 0) w1) := Lib.hid (cons_nilrow (cons_nilrow (cons_start w1) w1.heap.size 9 1) w1.heap.size 109 2)
  clear hS hb1
  go_wp2_with fail
  go_loopg [2, 3, 5] 27 (fun g v1 v2 i => fun wr => ∃ (r : Nat), r + g = 27 ∧ i = .int .i64 (r : Int) ∧ Hid (Two8 w1 v1 v2 (prsTo r) (codesTo r) wr))
  case atStart => exact ⟨0, by omega, rfl, HC0⟩
  case round =>
    obtain ⟨r, hr, rfl, HC⟩ := hrel
    cases gk with
    | zero =>
      obtain rfl : r = 27 := by omega
      rw [prsTo_all, codesTo_all] at HC
      go_wp2_with fail
      go_ret2
      exact ⟨w1, _, _, HB1.out, rfl, HC.out⟩
    | succ g =>
      have hlt : ((r : Int) < 27) := by omega
      have hr27 : r < rowL.length := by rw [rowL_len]; omega
      have h200 : rowL[r].length ≤ 200 := by
        have := List.all_eq_true.1 rowL_le rowL[r] (List.getElem_mem hr27)
        simpa using this
      have h63 : (prsTo r).length ≤ 63 ∧ (codesTo r).length ≤ 63 := by
        have := List.all_eq_true.1 lens8 r (List.mem_range.2 (by omega))
        simpa using this
      have hcs := codesTo_succ r hr27
      have hps := prsTo_succ r hr27
      have hx0 : ∀ W, Sl W A (rowL.map strV) → ∃ ad, A = some ad ∧ W.cell? (ad.add r) = some (.string (bs rowL[r])) := fun W hW => by
        obtain ⟨ad, h1, _, h2⟩ := hW.at_ r (by rw [List.length_map]; exact hr27)
        rw [List.getElem_map] at h2
        exact ⟨ad, h1, h2⟩
      obtain ⟨x, hx⟩ : ∃ x, rowL[r] = x := ⟨_, rfl⟩
      rw [hx] at h200 hcs hps hx0
      have HCS := Lib.hid hcs; have HPS := Lib.hid hps; have HX := Lib.hid hx0; have HR := Lib.hid hr; have H200 := Lib.hid h200; have H63 := Lib.hid h63
      have HC1 : Hid (Two8 w1 _ _ (prsTo r ++ prsR r (cutS x 0).1.length) (codesTo r ++ (cutS x 0).1) wr) := Lib.hid (by
        unfold cutS
        rw [List.append_nil, List.length_nil, show prsR r 0 = [] from rfl, List.append_nil]
        exact HC.out)
      clear hcs hps hx0 hx hr h200 hr27 HC h63
      obtain ⟨xl, hxl⟩ : ∃ xl, x.length = xl := ⟨_, rfl⟩
      have HXL := Lib.hid hxl
      clear hxl
      go_wp2_with fail
      go_loopg [2, 3, 6, 7, 8] (xl + 1) (fun gg v1 v2 t6 t7 t8 => fun wx => ∃ (i : Nat), i + gg = xl + 1 ∧ t6 = .int .i64 (((cutS x i).1.length : Int) + 1) ∧ t7 = .int .i64 ((cutS x i).2 : Nat) ∧ t8 = .int .i64 (i : Int) ∧ Hid (Two8 w1 v1 v2 (prsTo r ++ prsR r (cutS x i).1.length) (codesTo r ++ (cutS x i).1) wx))
      case atStart => exact ⟨0, by omega, rfl, rfl, rfl, HC1⟩
      case round =>
        obtain ⟨i, hi, rfl, rfl, rfl, HC2⟩ := hrel
        obtain ⟨ad, rfl, hcell⟩ := HX.out wr (HS.out.below HC2.out.1)
        have HX2 : Hid (∀ W, Below w1.heap.size w1 W → W.cell? (ad.add r) = some (.string (bs x))) := Lib.hid (fun W hb => by
          obtain ⟨ad', h1, h2⟩ := HX.out W (HS.out.below hb)
          cases h1
          exact h2)
        have hl := HXL.out
        cases gk with
        | zero =>
          obtain rfl : i = xl + 1 := by omega
          have hle : ¬ (((xl + 1 : Nat) : Int) ≤ (x.length : Int)) := by omega
          have HC3 : Hid (Two8 w1 _ _ (prsTo (r + 1)) (codesTo (r + 1)) wr) := Lib.hid (by rw [HPS.out, HCS.out]; unfold cutR; rw [hl]; exact HC2.out)
          clear HC2
          go_wp2_with fail
          go_roundg g
          case measure => omega
          case rel => exact ⟨r + 1, by have := HR.out; omega, rfl, HC3⟩
        | succ gg =>
          have hle : ((i : Int) ≤ (x.length : Int)) := by omega
          have hcl := cutS_le x i
          have h200 := H200.out
          have h63 := H63.out
          by_cases hst : i = x.length ∨ x.getD i 0 = 32
          · have hnx := cutS_stop hst
            have hcas : ((i : Int) == (x.length : Int)) = true ∨ (((i : Int) == (x.length : Int)) = false ∧ ∃ h : i < x.length, ((x[i].toNat : Int) == 32) = true) := by
              by_cases h1 : i = x.length
              · left; rw [h1]; simp
              · right
                have hlt2 : i < x.length := by omega
                refine ⟨by rw [beq_eq_false_iff_ne]; omega, hlt2, ?_⟩
                have h2 : x.getD i 0 = 32 := by rcases hst with h | h; exact absurd h h1; exact h
                have hxi : x.getD i 0 = x[i] := by simp [List.getD, hlt2]
                rw [← hxi, h2]
                rfl
            obtain ⟨⟨cs, fr⟩, hc⟩ : ∃ q, cutS x i = q := ⟨_, rfl⟩
            rw [hc] at hnx hcl HC2 ⊢
            dsimp only at hnx hcl HC2 ⊢
            have hpr := prsR_succ r cs.length
            have hz := HC2.out
            obtain ⟨A1, c1, q1⟩ := own_slN hz.2.2.head
            obtain ⟨A2, c2, q2, _⟩ := own_sl hz.2.2.tail.head
            dsimp only at q1 q2
            subst q1 q2
            unfold Two8 at hz
            obtain ⟨n1, hn1⟩ : ∃ n1, (prsTo r ++ prsR r cs.length).length = n1 := ⟨_, rfl⟩
            obtain ⟨n2, hn2⟩ : ∃ n2, (codesTo r ++ cs).length = n2 := ⟨_, rfl⟩
            have hb1 : n1 ≤ 300 := by rw [← hn1, List.length_append, prsR_len]; omega
            have hb2 : n2 ≤ 300 := by rw [← hn2, List.length_append]; omega
            rw [hn1, hn2] at hz ⊢
            have HN1 := Lib.hid hn1; have HN2 := Lib.hid hn2
            have HP := Lib.hid hz; have HNX := Lib.hid hnx; have HPR := Lib.hid hpr
            have hw6 : IntKind.i64.wrap ((cs.length : Int) + 1 + 1) = (cs.length : Int) + 1 + 1 := by rw [IntKind.wrap_i64]; omega
            have hwi : IntKind.i64.wrap ((i : Int) + 1) = (i : Int) + 1 := by rw [IntKind.wrap_i64]; omega
            have hf1 : ((fr : Int) ≤ (i : Int)) := by omega
            have hf0 : ¬ ((i : Int) < (fr : Int)) := by omega
            have tok : True := trivial
            have HI := Lib.hid hi
            clear hst hnx hc hz hpr hi hl h200 h63 hcl HC2 hn1 hn2
            rcases hcas with e1 | ⟨e1, hlt2, e2⟩
            all_goals
              go_wp2_with (first
                | (at_builtin; have _t := tok; refine wpList_appC etPair rfl rfl 1 [.int .i64 (r : Int), .int .i64 ((cs.length : Int) + 1)] rfl HP.out rfl rfl (by intro u hu; simp at hu; rcases hu with rfl | rfl <;> rfl) (by omega) ⟨Nat.le_refl _, HP.out.1.size⟩ (by simp) (by simp) ?_; clear tok; intro v1 W1 hc1; have HC3 := Lib.hid hc1; have hcell1 := HX2.out _ hc1.1; clear hc1 hcell)
                | (at_builtin; refine wpList_appC etStr rfl rfl 1 [strV ((x.take i).drop fr)] rfl (cons_swap HC3.out) rfl rfl (by intro u hu; simp [strV] at hu; subst hu; rfl) (by omega) ⟨Nat.le_refl _, HC3.out.1.size⟩ (by simp) (by simp) ?_; intro v2 W2 hc2; have HC4 := Lib.hid hc2; clear hc2))
              go_roundg gg
              case measure => omega
              case rel =>
                refine ⟨i + 1, by have := HI.out; omega, ?_, ?_, rfl, Lib.hid ?_⟩
                · rw [HNX.out, List.length_append]; rfl
                · rw [HNX.out]; rfl
                · rw [HNX.out, List.length_append, List.length_singleton, HPR.out, ← List.append_assoc, ← List.append_assoc]
                  have h4 := HC4.out
                  rw [← HN1.out, ← HN2.out] at h4
                  exact two8_app h4
          · have hnx := cutS_go hst
            rw [not_or] at hst
            have hlt2 : i < x.length := by omega
            have e1 : ((i : Int) == (x.length : Int)) = false := by rw [beq_eq_false_iff_ne]; omega
            have hxi : x.getD i 0 = x[i] := by simp [List.getD, hlt2]
            have e2 : ((x[i].toNat : Int) == 32) = false := by
              rw [beq_eq_false_iff_ne]
              intro h
              apply hst.2
              rw [hxi]
              exact UInt8.toNat_inj.1 (by show x[i].toNat = 32; omega)
            have HC3 : Hid (Two8 w1 _ _ (prsTo r ++ prsR r (cutS x (i + 1)).1.length) (codesTo r ++ (cutS x (i + 1)).1) wr) := Lib.hid (by rw [hnx]; exact HC2.out)
            have HNX := Lib.hid hnx
            clear hst hnx hxi hcl h63 HC2
            go_wp2_with fail
            go_roundg gg
            case measure => omega
            case rel => exact ⟨i + 1, by omega, by rw [HNX.out], by rw [HNX.out], rfl, HC3⟩
end Go.Proofs.YtcojnigkgbmbmaaGreatDoor
namespace Go.Proofs.YtcojnigkgbmbmaaGreatDoor
open Go Go.RowKit
attribute [local go_sem] Oper.semAt_some
end Go.Proofs.YtcojnigkgbmbmaaGreatDoor
namespace Go.Proofs.YtcojnigkgbmbmaaGreatDoor
open Go Go.RowKit
theorem codes8_set : codes8.set 0 [49] = (tabL true).map (·.2) := by kernel_rfl
theorem cs8_true : cs8 true = (tabL true).map (·.2) ++ [escC] := by simp [cs8]
theorem cs8_false : cs8 false = (codes8 ++ [endC]) ++ [escC] := rfl
theorem ns8_true : ns8 true = frL 0 63 ++ [1000] := by kernel_rfl
theorem ns8_false : ns8 false = (frL 0 63 ++ [1001]) ++ [1000] := by kernel_rfl
theorem frL_len (lo : Int) (j : Nat) : (frL lo j).length = j := by simp [frL]
/-- numbers, and codes. -/
def NC (w : World) (v1 v2 : Value) (N : List Int) (C : List (List UInt8)) (W : World) : Prop := Cons w [] [⟨w.heap.size, 3, 1, v1, N.length, N.map intV⟩, ⟨w.heap.size, 9, 1, v2, C.length, C.map strV⟩] W
theorem nc_set {w : World} {v1 : Value} {g n c : Nat} {N : List Int} {C : List (List UInt8)} {W : World} (h : NC w v1 (.slice (some ⟨g, 0, none⟩) n c) N C W) (hn : C.length = n) (i : Nat) (s : List UInt8) :
    NC w v1 (.slice (some ⟨g, 0, none⟩) n c) N (C.set i s) (W.setCell ⟨g, i, none⟩ (strV s)) := by
  subst hn
  have h1 := h.2.2.head
  have h2 := h.2.2.tail.head
  dsimp only at h1 h2
  unfold NC
  refine ⟨h.1.setCell (p := ⟨g, i, none⟩) ?_ _, cellsAt_nil _, RowsAt.cons ?_ (RowsAt.cons ?_ (rowsAt_nil _))⟩
  · exact (h2.lt g rfl).1
  · refine own_set h1 ⟨g, i, none⟩ (strV s) ?_
    rcases rows_ne h2 h1 (by decide) with h3 | h3
    · rw [h3]; simp
    · exact h3
  · have h3 := (h2.stored i (strV s)).1
    rw [List.map_set, List.length_set]
    exact h3
theorem nc_app {w : World} {v1 v2 : Value} {N : List Int} {C : List (List UInt8)} {W : World} {k : Int} {s : List UInt8}
    (h : Cons w [] [⟨w.heap.size, 3, 1, v1, N.length + 1, N.map intV ++ [intV k]⟩, ⟨w.heap.size, 9, 1, v2, C.length + 1, C.map strV ++ [strV s]⟩] W) : NC w v1 v2 (N ++ [k]) (C ++ [s]) W := by
  unfold NC
  rw [List.map_append, List.map_append, List.length_append, List.length_append]
  exact h
theorem nc_get {w : World} {v1 v2 : Value} {N : List Int} {C : List (List UInt8)} {W : World} (h : NC w v1 v2 N C W) : ∃ A1 c1 A2 c2, v1 = .slice A1 N.length c1 ∧ v2 = .slice A2 C.length c2 ∧ Sl W A1 (N.map intV) ∧ Sl W A2 (C.map strV) ∧ Below w.heap.size w W := by
  obtain ⟨A1, c1, e1, s1⟩ := own_sl h.2.2.head
  obtain ⟨A2, c2, e2, s2⟩ := own_sl h.2.2.tail.head
  exact ⟨A1, c1, A2, c2, e1, e2, s1, s2, h.1⟩
set_option maxRecDepth 100000 in
set_option maxHeartbeats 4000000 in
theorem ref08_read (A : Option Addr) (n c : Nat) (l : List UInt8) (i : Int) (first : Bool) (w : World) (hA : Sl w A (l.map byteV)) (hn : l.length = n) (hsz : n ≤ 2 ^ 47) (hi : -9223372036854775808 ≤ i ∧ i ≤ 9223372036854775807) :
    Calls Tryz.prog 121 #[.slice A n c, .int .i64 i, .bool first] w fun e w' => e = .returned (.tuple #[.int .i64 (treeR (cs8 first) (ns8 first) l i).1, .int .i64 (treeR (cs8 first) (ns8 first) l i).2.1, .int .i64 (treeR (cs8 first) (ns8 first) l i).2.2]) ∧ Below w.heap.size w w' := by
  have Gt := Lib.hid (fun (b m : Nat) (W : World) (h : TreeAt W b m (cs8 first) (ns8 first)) (hm : (cs8 first).length = m) (hm3 : m ≤ 300) (hA : Sl W A (l.map byteV)) => ref03_Get b A n m c (cs8 first) (ns8 first) l i W h hm (by rw [← cs8_len]; exact hm) hm3 (by cases first <;> kernel_rfl) hA hn hsz hi)
  have MK := Lib.hid (fun (X Y : Option Addr) (m x y : Nat) (W : World) (h1 : Sl W X ((cs8 first).map strV)) (h2 : Sl W Y ((ns8 first).map intV)) (hm : (cs8 first).length = m) (h1' : 1 ≤ m) (h3 : m ≤ 300) => ref03_Make X Y m x y (cs8 first) (ns8 first) W h1 h2 hm (by rw [← cs8_len]; exact hm) h1' h3 (cs8_code first) (cs8_free first))
  have HA := Lib.hid hA; clear hA hn hsz hi
  generalize treeR (cs8 first) (ns8 first) l i = R at Gt ⊢
  obtain ⟨r1, r2, r3⟩ := R
  go_enter Tryz.func121, Tryz.ntmps121
  go_wp2_with fail
  refine (ref08_Coded w).mono ?_
  rintro e w2 ⟨w1, v1, v2, hb1, rfl, hz⟩
  obtain ⟨A2, c2, q2, _⟩ := own_sl hz.2.2.tail.head
  dsimp only at q2
  subst q2
  have HN0 : Hid (NC w1 (.slice none 0 0) (.slice A2 codes8.length c2) (frL 0 0) codes8 w2) := Lib.hid ⟨hz.1, cellsAt_nil _, RowsAt.cons (World.ownsRow_nil _ _ _ _) (RowsAt.cons hz.2.2.tail.head (rowsAt_nil _))⟩
  have HB1 := Lib.hid hb1
  clear hb1 hz
  rw [codes8_len] at HN0 ⊢
  go_wp2_with fail
  go_loopg [11, 12] 63 (fun g v i => fun wr => ∃ (j : Nat), j + g = 63 ∧ i = .int .i64 (j : Int) ∧ Hid (NC w1 v (.slice A2 63 c2) (frL 0 j) codes8 wr))
  case atStart => exact ⟨0, by omega, rfl, HN0⟩
  case round =>
    obtain ⟨j, hj, rfl, HN⟩ := hrel
    cases gk with
    | succ g =>
      have hlt : ((j : Int) < 63) := by omega
      have hw : IntKind.i64.wrap ((j : Int) + 1) = (j : Int) + 1 := by rw [IntKind.wrap_i64]; omega
      have hz := HN.out
      obtain ⟨A1, c1, q1, _⟩ := own_sl hz.2.2.head
      dsimp only at q1
      subst q1
      have HJ := Lib.hid hj
      have hj63 : j ≤ 62 := by omega
      unfold NC at hz
      rw [frL_len] at hz ⊢
      have HZ := Lib.hid hz
      clear hz hj HN
      go_wp2_with (at_builtin; refine wpList_appC etInt rfl rfl 1 [intV (j : Int)] rfl HZ.out rfl rfl (by intro u hu; simp [intV] at hu; subst hu; rfl) (by omega) ⟨Nat.le_refl _, HZ.out.1.size⟩ (by simp) (by simp) ?_; intro v1 W1 hc1; have HZ1 := Lib.hid hc1; clear hc1)
      go_roundg g
      case measure => omega
      case rel =>
        refine ⟨j + 1, by have := HJ.out; omega, rfl, Lib.hid ?_⟩
        unfold NC
        rw [frL_succ, frL_len, Int.add_zero]
        exact HZ1.out
    | zero =>
      obtain rfl : j = 63 := by omega
      have hlt : ¬ ((63 : Int) < 63) := by omega
      obtain ⟨A1, c1, A2', c2', q1, q2, _, _, _⟩ := nc_get HN.out
      subst q1
      clear q2
      cases first with
      | true =>
        have hz := HN.out
        obtain ⟨g2, hg2⟩ : ∃ g2, A2 = some ⟨g2, 0, none⟩ := by
          obtain ⟨g, cap, e, _⟩ := own_pos hz.2.2.tail.head (show 0 < codes8.length by rw [codes8_len]; decide)
          dsimp only at e
          injection e with e
          exact ⟨g, e⟩
        subst hg2
        have hc0 : wr.cell? ⟨g2, 0, none⟩ = some (.string (bs [49, 49])) := by
          have h1 := hz.2.2.tail.head.cellAt 0 (show 0 < codes8.length * 1 by rw [codes8_len]; decide)
          (try dsimp only at h1)
          rw [h1]
          have e : (codes8.map strV)[0]? = some (.string (bs [49, 49])) := by kernel_rfl
          exact e
        have hfz : wr.frozen? ⟨g2, 0, none⟩ = false := hz.2.2.tail.head.frozenAt 0
        have hs := nc_set hz codes8_len 0 [49]
        rw [codes8_set] at hs
        unfold NC at hs
        rw [frL_len, show ((tabL true).map (·.2)).length = 63 by kernel_rfl] at hs
        rw [frL_len] at *
        have HS := Lib.hid hs
        have t1 : True := trivial
        clear hz hs HN
        go_wp2_with (first
          | (at_builtin; have _t := t1; refine wpList_appC etStr rfl rfl 1 [strV escC] rfl (cons_swap HS.out) (by rw [World.size_setCell]; rfl) rfl (by intro u hu; simp [strV] at hu; subst hu; rfl) (by decide) ⟨Nat.le_refl _, HS.out.1.size⟩ (by simp) (by simp) ?_; clear t1; intro v3 W3 hc3; have HZ3 := Lib.hid hc3; clear hc3)
          | (at_builtin; refine wpList_appC etInt rfl rfl 1 [intV 1000] rfl (cons_swap HZ3.out) rfl rfl (by intro u hu; simp [intV] at hu; subst hu; rfl) (by decide) ⟨Nat.le_refl _, HZ3.out.1.size⟩ (by simp) (by simp) ?_; intro v4 W4 hc4; have HZ4 := Lib.hid hc4; clear hc4))
        have hnc := nc_app (N := frL 0 63) (C := (tabL true).map (·.2)) (by rw [frL_len, show ((tabL true).map (·.2)).length = 63 by kernel_rfl]; exact HZ4.out)
        obtain ⟨A3, c3, A4, c4, q1, q2, s3, s4, b5⟩ := nc_get hnc
        rw [show ((tabL true).map (·.2) ++ [escC] : List (List UInt8)).length = 64 by kernel_rfl] at q2
        rw [show (frL 0 63 ++ [1000] : List Int).length = 64 by kernel_rfl] at q1
        subst q1 q2
        have HB5 := Lib.hid (HB1.out.trans (b5.mono HB1.out.size))
        have H3 := Lib.hid s3; have H4 := Lib.hid s4
        clear hnc s3 s4 b5
        refine (MK.out _ _ 64 _ _ _ (by rw [cs8_true]; exact H4.out) (by rw [ns8_true]; exact H3.out) (by kernel_rfl) (by decide) (by decide)).mono ?_
        rintro e w6 ⟨b, rfl, hT, hb6⟩
        have B6 := Lib.hid (HB5.out.trans (hb6.mono HB5.out.size)); have HT := Lib.hid hT; clear hb6 hT
        go_wp2_with fail
        refine (Gt.out b 64 w6 HT.out (by kernel_rfl) (by decide) (HA.out.below B6.out)).mono ?_
        rintro e w7 ⟨rfl, hb7⟩
        have B7 := Lib.hid (B6.out.trans (hb7.mono B6.out.size)); clear hb7
        go_wp2_with fail
        go_ret3
        exact ⟨rfl, B7.out⟩
      | false =>
        have hz := HN.out
        unfold NC at hz
        rw [frL_len, codes8_len] at hz
        rw [frL_len] at *
        have HS := Lib.hid hz
        have t1 : True := trivial
        have t2 : True := trivial
        have t3 : True := trivial
        clear hz HN
        go_wp2_with (first
          | (at_builtin; have _t := t1; refine wpList_appC etStr rfl rfl 1 [strV endC] rfl (cons_swap HS.out) rfl rfl (by intro u hu; simp [strV] at hu; subst hu; rfl) (by decide) ⟨Nat.le_refl _, HS.out.1.size⟩ (by simp) (by simp) ?_; clear t1; intro v3 W3 hc3; have HZ3 := Lib.hid hc3; clear hc3)
          | (at_builtin; have _t := t2; refine wpList_appC etInt rfl rfl 1 [intV 1001] rfl (cons_swap HZ3.out) rfl rfl (by intro u hu; simp [intV] at hu; subst hu; rfl) (by decide) ⟨Nat.le_refl _, HZ3.out.1.size⟩ (by simp) (by simp) ?_; clear t2; intro v4 W4 hc4; have HZ4 := Lib.hid hc4; clear hc4)
          | (at_builtin; have _t := t3; refine wpList_appC etStr rfl rfl 1 [strV escC] rfl (cons_swap HZ4.out) rfl rfl (by intro u hu; simp [strV] at hu; subst hu; rfl) (by decide) ⟨Nat.le_refl _, HZ4.out.1.size⟩ (by simp) (by simp) ?_; clear t3; intro v5 W5 hc5; have HZ5 := Lib.hid hc5; clear hc5)
          | (at_builtin; refine wpList_appC etInt rfl rfl 1 [intV 1000] rfl (cons_swap HZ5.out) rfl rfl (by intro u hu; simp [intV] at hu; subst hu; rfl) (by decide) ⟨Nat.le_refl _, HZ5.out.1.size⟩ (by simp) (by simp) ?_; intro v6 W6 hc6; have HZ6 := Lib.hid hc6; clear hc6))
        have hnc := nc_app (N := frL 0 63 ++ [1001]) (C := codes8 ++ [endC]) (by rw [show (frL 0 63 ++ [1001] : List Int).length = 64 by kernel_rfl, show (codes8 ++ [endC] : List (List UInt8)).length = 64 by kernel_rfl, List.map_append, List.map_append]; exact HZ6.out)
        obtain ⟨A3, c3, A4, c4, q1, q2, s3, s4, b5⟩ := nc_get hnc
        rw [show ((codes8 ++ [endC]) ++ [escC] : List (List UInt8)).length = 65 by kernel_rfl] at q2
        rw [show ((frL 0 63 ++ [1001]) ++ [1000] : List Int).length = 65 by kernel_rfl] at q1
        subst q1 q2
        have HB5 := Lib.hid (HB1.out.trans (b5.mono HB1.out.size))
        have H3 := Lib.hid s3; have H4 := Lib.hid s4
        clear hnc s3 s4 b5
        refine (MK.out _ _ 65 _ _ _ (by rw [cs8_false]; exact H4.out) (by rw [ns8_false]; exact H3.out) (by kernel_rfl) (by decide) (by decide)).mono ?_
        rintro e w6 ⟨b, rfl, hT, hb6⟩
        have B6 := Lib.hid (HB5.out.trans (hb6.mono HB5.out.size)); have HT := Lib.hid hT; clear hb6 hT
        go_wp2_with fail
        refine (Gt.out b 65 w6 HT.out (by kernel_rfl) (by decide) (HA.out.below B6.out)).mono ?_
        rintro e w7 ⟨rfl, hb7⟩
        have B7 := Lib.hid (B6.out.trans (hb7.mono B6.out.size)); clear hb7
        go_wp2_with fail
        go_ret3
        exact ⟨rfl, B7.out⟩
end Go.Proofs.YtcojnigkgbmbmaaGreatDoor
