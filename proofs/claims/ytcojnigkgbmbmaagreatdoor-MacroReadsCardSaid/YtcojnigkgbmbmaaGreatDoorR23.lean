/- Cf1, Tabl, Short, Cput, BPut -/
import Derived.Test.YtcojnigkgbmbmaaGreatDoorR22
import Derived.Test.YtcojnigkgbmbmaaGreatDoorR02
import Derived.Test.YtcojnigkgbmbmaaGreatDoorR17
import Derived.Test.YtcojnigkgbmbmaaGreatDoorR10
import Derived.Test.YtcojnigkgbmbmaaGreatDoorR19
import Derived.Test.YtcojnigkgbmbmaaGreatDoorR01
import Derived.Test.YtcojnigkgbmbmaaGreatDoorR18
namespace Go.Proofs.YtcojnigkgbmbmaaGreatDoor
open Go Go.RowKit
theorem coeff_same (a b : List UInt8) (w : World) : Calls Tryz.prog 178 #[.string (bs a), .string (bs b)] w fun e w' => e = .returned (.bool (sameB a b)) ∧ Below w.heap.size w w' := by
  unfold sameB
  by_cases h : a.length ≤ b.length
  · have hm : min (a.length : Int) (b.length : Int) = (a.length : Int) := by omega
    have hn : min a.length b.length = a.length := by omega
    have h1 : (a.length : Int) ≤ (b.length : Int) := by omega
    rw [hn, List.take_length]
    go_enter Tryz.func178, Tryz.ntmps178
    go_wp2_with fail
    refine wp_region_treeN (fun _ => True) 6 (.take 0 (.take 1 (.take 2 (.take 3 (.take 4 (.take 5 .done)))))) (by kernel_rfl) (by kernel_rfl) (by simp only [Pln.out, Array.getD_eq_getD_getElem?, List.getElem?_toArray, List.getElem?_cons_zero, List.getElem?_cons_succ, Option.getD_some]; rfl) (by simp only [List.map_cons, List.map_nil]; rfl) (trivial) (fun PE hPE => ?_)
    iterate 6
      refine tree_take (v := ?_) rfl (by rfl) ?_ ?_
      rotate_left
      · intro _ hSw; (try dsimp only at hSw); go_simp; (try with_reducible rfl)
      simp only [List.setIfInBounds_toArray, List.set_cons_zero, List.set_cons_succ]
    refine hPE _ _ ?_
    clear hPE PE
    simp only [List.drop_succ_cons, List.drop_zero, List.drop_nil]
    go_wp2_with fail
    refine ⟨rfl, ?_⟩
    go_wp2_with fail
    go_ret
    exact ⟨rfl, (Below.refl _ _).drew⟩
  · have hm : min (a.length : Int) (b.length : Int) = (b.length : Int) := by omega
    have hn : min a.length b.length = b.length := by omega
    have h1 : (b.length : Int) ≤ (a.length : Int) := by omega
    rw [hn, List.take_length]
    go_enter Tryz.func178, Tryz.ntmps178
    go_wp2_with fail
    refine wp_region_treeN (fun _ => True) 6 (.take 0 (.take 1 (.take 2 (.take 3 (.take 4 (.take 5 .done)))))) (by kernel_rfl) (by kernel_rfl) (by simp only [Pln.out, Array.getD_eq_getD_getElem?, List.getElem?_toArray, List.getElem?_cons_zero, List.getElem?_cons_succ, Option.getD_some]; rfl) (by simp only [List.map_cons, List.map_nil]; rfl) (trivial) (fun PE hPE => ?_)
    iterate 6
      refine tree_take (v := ?_) rfl (by rfl) ?_ ?_
      rotate_left
      · intro _ hSw; (try dsimp only at hSw); go_simp; (try with_reducible rfl)
      simp only [List.setIfInBounds_toArray, List.set_cons_zero, List.set_cons_succ]
    refine hPE _ _ ?_
    clear hPE PE
    simp only [List.drop_succ_cons, List.drop_zero, List.drop_nil]
    go_wp2_with fail
    refine ⟨rfl, ?_⟩
    go_wp2_with fail
    go_ret
    exact ⟨rfl, (Below.refl _ _).drew⟩
theorem coeff_End (w : World) : Calls Tryz.prog 99 #[] w fun e w' => e = .returned (.string (bs endC)) ∧ w = w' := by
  go_enter Tryz.func99, Tryz.ntmps99
  go_wp2
  go_ret
  exact ⟨rfl, rfl⟩
set_option maxHeartbeats 1000000 in
theorem coeff_pair (p : Int × Int) (w : World) : Calls Tryz.prog 132 #[.agg #[.int .i64 p.1, .int .i64 p.2]] w fun e w' => e = .returned (.bool (pairB p)) ∧ Below w.heap.size w w' := by
  obtain ⟨a, b⟩ := p
  unfold pairB
  dsimp only
  cases d1 : decide (0 ≤ a) with
  | false =>
    simp only [Bool.false_and]
    go_enter Tryz.func132, Tryz.ntmps132
    go_wp2
    go_ret
    exact ⟨rfl, (Below.refl _ _).alloc (Nat.le_refl _) _⟩
  | true =>
    cases d2 : decide (a ≤ 63) with
    | false =>
      simp only [Bool.false_and, Bool.and_false]
      go_enter Tryz.func132, Tryz.ntmps132
      go_wp2
      go_ret
      exact ⟨rfl, (Below.refl _ _).alloc (Nat.le_refl _) _⟩
    | true =>
      cases d3 : decide (-127 ≤ b) with
      | false =>
        simp only [Bool.false_and, Bool.and_false]
        go_enter Tryz.func132, Tryz.ntmps132
        go_wp2
        go_ret
        exact ⟨rfl, (Below.refl _ _).alloc (Nat.le_refl _) _⟩
      | true =>
        cases d4 : decide (b ≤ 127) with
        | false =>
          simp only [Bool.false_and, Bool.and_false]
          go_enter Tryz.func132, Tryz.ntmps132
          go_wp2
          go_ret
          exact ⟨rfl, (Below.refl _ _).alloc (Nat.le_refl _) _⟩
        | true =>
          cases d5 : (b != 0) with
          | false =>
            simp only [Bool.and_false]
            go_enter Tryz.func132, Tryz.ntmps132
            go_wp2
            go_ret
            exact ⟨rfl, (Below.refl _ _).alloc (Nat.le_refl _) _⟩
          | true =>
            simp only [Bool.and_self]
            go_enter Tryz.func132, Tryz.ntmps132
            go_wp2
            go_ret
            exact ⟨rfl, (Below.refl _ _).alloc (Nat.le_refl _) _⟩
set_option maxRecDepth 100000 in
set_option maxHeartbeats 2000000 in
theorem coeff_seen (A : Option Addr) (n c : Nat) (l : List UInt8) (i : Nat) (w : World) (hA : Sl w A (l.map byteV)) (hn : l.length = n) (hsz : n ≤ 2 ^ 47) (hi : i ≤ 8 * n) :
    Calls Tryz.prog 177 #[.slice A n c, .int .i64 (i : Int)] w fun e w' => e = .returned (.string (bs (bitsL l i (min 20 (8 * n - i))))) ∧ Below w.heap.size w w' := by
  have HA := Lib.hid hA; have HN := Lib.hid hn
  clear hA hn
  go_enter Tryz.func177, Tryz.ntmps177
  go_wp2_with fail
  go_loopg [9] 20 (fun g v9 => fun wr => ∃ j : Nat, j + g = 20 ∧ v9 = .int .i64 (j : Int) ∧ (j = 0 ∨ i + j ≤ 8 * n) ∧ Hid (Lib.IsBuilder 123 5 w.heap.size w.heap.size ((bitsL l i j).map byteV) wr) ∧ Hid (Below w.heap.size w wr))
  case atStart => exact ⟨0, by omega, rfl, .inl rfl, Lib.hid (bld_new w), Lib.hid ((Below.refl _ _).alloc (Nat.le_refl _) _)⟩
  case round =>
    obtain ⟨j, hj, rfl, hin, HB, HBl⟩ := hrel
    have fin : ∀ (wr : World), Hid (Lib.IsBuilder 123 5 w.heap.size w.heap.size ((bitsL l i j).map byteV) wr) → Hid (Below w.heap.size w wr) → Calls Tryz.prog 98 #[.pointer (some ⟨w.heap.size, 0, none⟩)] wr fun e w' => e = .returned (.string (bs (bitsL l i j))) ∧ Below w.heap.size wr w' :=
      fun wr HB HBl => Tryz.Builder_String_any _ _ (bitsL l i j) _ HB.out HBl.out.size
    have FIN := Lib.hid fin
    clear fin
    cases gk with
    | zero =>
      obtain rfl : j = 20 := by omega
      have hlt : ¬ (((20 : Nat) : Int) < 20) := by omega
      have HMIN := Lib.hid (show min 20 (8 * n - i) = 20 by omega)
      go_wp2_with (go_at_call 98; refine (FIN.out _ HB HBl).mono ?_; rintro e w' ⟨rfl, hb1⟩; have HB1 := Lib.hid hb1; clear hb1)
      go_ret
      rw [HMIN.out]
      exact ⟨rfl, HBl.out.trans HB1.out⟩
    | succ g =>
      have hlt : ((j : Int) < 20) := by omega
      have hw0 : IntKind.i64.wrap ((i : Int) + (j : Int)) = (i : Int) + (j : Int) := by rw [IntKind.wrap_i64]; omega
      by_cases hmore : i + j < 8 * n
      · have Rd := Lib.hid (fun W h => bits_Read_v ((bitN l (i + j) : Nat) : Int) A n c l ((i : Int) + (j : Int)) 1 W (by rw [show ((i : Int) + (j : Int)).toNat = i + j by omega]; show ((numN l (i + j) 1 : Nat) : Int) = _; rw [numN_one]) h HN.out (by omega) (by decide) (by decide) (by omega) hsz)
        have HJ := Lib.hid hj
        have HM := Lib.hid hmore
        have Hs := Lib.hid (bitsL_succ l i j)
        have hb2 := bitN_lt l (i + j)
        have HL := Lib.hid (show ((bitsL l i j).map byteV).length + 1 ≤ 140737488355328 by rw [List.length_map, bitsL_length]; omega)
        obtain ⟨q, hq⟩ : ∃ q, bitN l (i + j) = q := ⟨_, rfl⟩
        have hbc : bitC l (i + j) = if q = 0 then 48 else 49 := by unfold bitC; rw [hq]
        rw [hq] at Rd hb2
        have HBC := Lib.hid hbc
        clear hj hmore hq hbc hin
        have hq01 : q = 0 ∨ q = 1 := by omega
        rcases hq01 with rfl | rfl
        · go_wp2_with (first
            | (go_at_call 110; refine (Rd.out _ (HA.out.below HBl.out)).mono ?_; rintro e w' ⟨rfl, rfl⟩)
            | (go_at_call 95; refine (bld_write w.heap.size w.heap.size _ 48 wr HB.out HL.out HBl.out.size).mono ?_; rintro e w1 ⟨rfl, hB1, hb1⟩; have HB1 := Lib.hid hB1; have Hb1 := Lib.hid hb1; clear hB1 hb1))
          go_roundg g
          case measure => omega
          case rel =>
            refine ⟨j + 1, by have := HJ.out; omega, rfl, .inr (by have := HM.out; omega), Lib.hid ?_, Lib.hid (HBl.out.trans Hb1.out)⟩
            rw [Hs.out, HBC.out, List.map_append]
            exact HB1.out
        · go_wp2_with (first
            | (go_at_call 110; refine (Rd.out _ (HA.out.below HBl.out)).mono ?_; rintro e w' ⟨rfl, rfl⟩)
            | (go_at_call 95; refine (bld_write w.heap.size w.heap.size _ 49 wr HB.out HL.out HBl.out.size).mono ?_; rintro e w1 ⟨rfl, hB1, hb1⟩; have HB1 := Lib.hid hB1; have Hb1 := Lib.hid hb1; clear hB1 hb1))
          go_roundg g
          case measure => omega
          case rel =>
            refine ⟨j + 1, by have := HJ.out; omega, rfl, .inr (by have := HM.out; omega), Lib.hid ?_, Lib.hid (HBl.out.trans Hb1.out)⟩
            rw [Hs.out, HBC.out, List.map_append]
            exact HB1.out
      · have Rd := Lib.hid (fun W => bits_Read_more A n c ((i : Int) + (j : Int)) 1 W (by omega) (by decide) (by decide) (by omega) hsz)
        have HMIN := Lib.hid (show min 20 (8 * n - i) = j by omega)
        clear hin hmore
        go_wp2_with (first
          | (go_at_call 110; refine (Rd.out _).mono ?_; rintro e w' ⟨rfl, rfl⟩)
          | (go_at_call 98; refine (FIN.out _ HB HBl).mono ?_; rintro e w' ⟨rfl, hb1⟩; have HB1 := Lib.hid hb1; clear hb1))
        go_ret
        rw [HMIN.out]
        exact ⟨rfl, HBl.out.trans HB1.out⟩
end Go.Proofs.YtcojnigkgbmbmaaGreatDoor
namespace Go.Proofs.YtcojnigkgbmbmaaGreatDoor
open Go Go.RowKit
attribute [local go_sem] Oper.semAt_some
def rowsA : Array Value := #[.string ⟨#[49, 49, 32, 48, 49, 48, 48, 32, 48, 48, 49, 48, 49, 32, 48, 48, 48, 48, 49, 49, 48, 32, 48, 48, 49, 48, 48, 49, 49, 48, 32, 48, 48, 49, 48, 48, 48, 48, 49, 32, 48, 48, 48, 48, 48, 48, 49, 48, 49, 48, 32, 48, 48, 48, 48, 48, 48, 48, 49, 49, 49, 48, 49, 32, 48, 48, 48, 48, 48, 48, 48, 49, 49, 48, 48, 48, 32, 48, 48, 48, 48, 48, 48, 48, 49, 48, 48, 49, 49, 32, 48, 48, 48, 48, 48, 48, 48, 49, 48, 48, 48, 48, 32, 48, 48, 48, 48, 48, 48, 48, 48, 49, 49, 48, 49, 48, 32, 48, 48, 48, 48, 48, 48, 48, 48, 49, 49, 48, 48, 49, 32, 48, 48, 48, 48, 48, 48, 48, 48, 49, 49, 48, 48, 48, 32, 48, 48, 48, 48, 48, 48, 48, 48, 49, 48, 49, 49, 49]⟩, .string ⟨#[48, 49, 49, 32, 48, 48, 48, 49, 49, 48, 32, 48, 48, 49, 48, 48, 49, 48, 49, 32, 48, 48, 48, 48, 48, 48, 49, 49, 48, 48, 32, 48, 48, 48, 48, 48, 48, 48, 49, 49, 48, 49, 49, 32, 48, 48, 48, 48, 48, 48, 48, 48, 49, 48, 49, 49, 48, 32, 48, 48, 48, 48, 48, 48, 48, 48, 49, 48, 49, 48, 49]⟩, .string ⟨#[48, 49, 48, 49, 32, 48, 48, 48, 48, 49, 48, 48, 32, 48, 48, 48, 48, 48, 48, 49, 48, 49, 49, 32, 48, 48, 48, 48, 48, 48, 48, 49, 48, 49, 48, 48, 32, 48, 48, 48, 48, 48, 48, 48, 48, 49, 48, 49, 48, 48]⟩, .string ⟨#[48, 48, 49, 49, 49, 32, 48, 48, 49, 48, 48, 49, 48, 48, 32, 48, 48, 48, 48, 48, 48, 48, 49, 49, 49, 48, 48, 32, 48, 48, 48, 48, 48, 48, 48, 48, 49, 48, 48, 49, 49]⟩, .string ⟨#[48, 48, 49, 49, 48, 32, 48, 48, 48, 48, 48, 48, 49, 49, 49, 49, 32, 48, 48, 48, 48, 48, 48, 48, 49, 48, 48, 49, 48]⟩, .string ⟨#[48, 48, 48, 49, 49, 49, 32, 48, 48, 48, 48, 48, 48, 49, 48, 48, 49, 32, 48, 48, 48, 48, 48, 48, 48, 48, 49, 48, 48, 49, 48]⟩, .string ⟨#[48, 48, 48, 49, 48, 49, 32, 48, 48, 48, 48, 48, 48, 48, 49, 49, 49, 49, 48]⟩, .string ⟨#[48, 48, 48, 49, 48, 48, 32, 48, 48, 48, 48, 48, 48, 48, 49, 48, 49, 48, 49]⟩, .string ⟨#[48, 48, 48, 48, 49, 49, 49, 32, 48, 48, 48, 48, 48, 48, 48, 49, 48, 48, 48, 49]⟩, .string ⟨#[48, 48, 48, 48, 49, 48, 49, 32, 48, 48, 48, 48, 48, 48, 48, 48, 49, 48, 48, 48, 49]⟩, .string ⟨#[48, 48, 49, 48, 48, 49, 49, 49, 32, 48, 48, 48, 48, 48, 48, 48, 48, 49, 48, 48, 48, 48]⟩, .string ⟨#[48, 48, 49, 48, 48, 48, 49, 49]⟩, .string ⟨#[48, 48, 49, 48, 48, 48, 49, 48]⟩, .string ⟨#[48, 48, 49, 48, 48, 48, 48, 48]⟩, .string ⟨#[48, 48, 48, 48, 48, 48, 49, 49, 49, 48]⟩, .string ⟨#[48, 48, 48, 48, 48, 48, 49, 49, 48, 49]⟩, .string ⟨#[48, 48, 48, 48, 48, 48, 49, 48, 48, 48]⟩, .string ⟨#[48, 48, 48, 48, 48, 48, 48, 49, 49, 49, 49, 49]⟩, .string ⟨#[48, 48, 48, 48, 48, 48, 48, 49, 49, 48, 49, 48]⟩, .string ⟨#[48, 48, 48, 48, 48, 48, 48, 49, 49, 48, 48, 49]⟩, .string ⟨#[48, 48, 48, 48, 48, 48, 48, 49, 48, 49, 49, 49]⟩, .string ⟨#[48, 48, 48, 48, 48, 48, 48, 49, 48, 49, 49, 48]⟩, .string ⟨#[48, 48, 48, 48, 48, 48, 48, 48, 49, 49, 49, 49, 49]⟩, .string ⟨#[48, 48, 48, 48, 48, 48, 48, 48, 49, 49, 49, 49, 48]⟩, .string ⟨#[48, 48, 48, 48, 48, 48, 48, 48, 49, 49, 49, 48, 49]⟩, .string ⟨#[48, 48, 48, 48, 48, 48, 48, 48, 49, 49, 49, 48, 48]⟩, .string ⟨#[48, 48, 48, 48, 48, 48, 48, 48, 49, 49, 48, 49, 49]⟩]
theorem rowsA_eq : rowsA = (rowL.map strV).toArray := by kernel_rfl
theorem rowL_len : rowL.length = 27 := by kernel_rfl
set_option maxRecDepth 100000 in
theorem coeff_rows (w : World) : Calls Tryz.prog 172 #[] w fun e w' => e = .returned (.slice (some ⟨w.heap.size, 0, none⟩) 27 27) ∧ w.alloc (.cells rowsA 9) = w' := by
  go_enter Tryz.func172, Tryz.ntmps172
  go_wp2
  go_ret
  exact ⟨rfl, rfl⟩
theorem coeff_table (first : Bool) (w : World) : Calls Tryz.prog 158 #[.bool first] w fun e w' => e = .returned (.func (.func 171) #[] #[.pointer (some ⟨w.heap.size, 0, none⟩)]) ∧ w.alloc (.cells #[.bool first] 4) = w' := by
  go_enter Tryz.func158, Tryz.ntmps158
  go_wp2
  go_ret
  exact ⟨rfl, rfl⟩
def encT (x : (Int × Int) × List UInt8) : Array Value := #[.agg #[.int .i64 x.1.1, .int .i64 x.1.2], .string (bs x.2)]
theorem row_ascii : ∀ r ∈ rowL, ∀ c ∈ r, c.toNat < 128 := by decide +kernel
theorem row_small : ∀ r ∈ rowL, r.length ≤ 1000 := by decide +kernel
theorem row_fields : ∀ r ∈ rowL, (Lib.fields r).length ≤ 100 := by decide +kernel
def codT (first : Bool) (r i : Nat) (c : List UInt8) : List UInt8 := if first && r == 0 && i == 0 then [49] else c
theorem tabRow_cons (first : Bool) (r i : Nat) (c : List UInt8) (cs : List (List UInt8)) : tabRow first r i (c :: cs) = ((((r : Int), (i : Int) + 1), codT first r i c)) :: tabRow first r (i + 1) cs := rfl
theorem tabRows_cons (first : Bool) (r : Nat) (x : List UInt8) (xs : List (List UInt8)) : tabRows first r (x :: xs) = tabRow first r 0 (Lib.fields x) ++ tabRows first (r + 1) xs := rfl
def ixT : Value → Int
  | .int _ n => n
  | _ => 0
set_option maxRecDepth 100000 in
set_option maxHeartbeats 4000000 in
theorem table_seq (n : Nat) (hn : 1 ≤ n) (b : Nat) (first : Bool) (I : List ((Int × Int) × List UInt8) → World → Prop) (hI : ∀ pre A B, I pre A → Below A.heap.size A B → I pre B) (hIs : ∀ pre W, I pre W → Blk W b 4 #[.bool first] ∧ Ts W) :
    SeqG Fence.wide n Tryz.prog 171 #[.pointer (some ⟨b, 0, none⟩)] encT I I (fun xs => xs = tabL first) (fun pre => pre <+: tabL first) := by
  intro lp K Jx W hK hY h0 hk0
  refine callsIn_of_wp Tryz.func171 rfl trivial ?_ rfl
  simp only [Tryz.ntmps171, List.size_toArray, List.length_cons, List.length_nil, Nat.reduceAdd, Nat.reduceSub, Array.replicate_succ, Array.replicate_zero, List.push_toArray, List.append_toArray, List.nil_append, List.cons_append]
  have HY := Lib.hid hY; have HI := Lib.hid hI; have HIs := Lib.hid hIs; have HK := Lib.hid hK; have H0 := Lib.hid h0; have HK0 := Lib.hid hk0
  clear hY hI hIs hK h0 hk0
  obtain ⟨RA, hra⟩ : ∃ RA, RA = rowsA := ⟨_, rfl⟩
  have CR := Lib.hid (fun W => coeff_rows W)
  rw [← hra] at CR
  have HRA := Lib.hid (hra.trans rowsA_eq)
  clear hra
  obtain ⟨TL, htl⟩ : ∃ TL, TL = tabL first := ⟨_, rfl⟩
  have HTL := Lib.hid htl
  rw [← htl] at HY
  rw [← htl]
  clear htl
  gi_wp2_with (refine ⟨trivial, ?_⟩; gi_at_call 172; refine (callsIn_wide.2 (CR.out _)).mono ?_; rintro e w1 ⟨rfl, rfl⟩)
  gi_loopw [9] (fun v9 wr => ∃ (r : Nat) (pre : List ((Int × Int) × List UInt8)), v9 = .int .i64 (r : Int) ∧ r ≤ 27 ∧ Hid (TL = pre ++ tabRows first r (rowL.drop r)) ∧ Hid (I pre wr) ∧ Hid (K wr) ∧ Hid (Blk wr W.heap.size 9 RA)) (fun v9 _ => 27 - (ixT v9).toNat)
  case atStart =>
    refine ⟨0, [], rfl, by omega, Lib.hid (by rw [HTL.out]; rfl), Lib.hid (HI.out _ _ _ H0.out ((Below.refl _ _).alloc (Nat.le_refl _) _)), Lib.hid (HK.out.below HK0.out ((Below.refl _ _).alloc (Nat.le_refl _) _)), Lib.hid (Blk.new _ _ _)⟩
  case round =>
    obtain ⟨r, pre0, rfl, hr, HD, HI0, HK1, HB⟩ := hrel
    by_cases hrl : r < 27
    · have hrli : (r : Int) < 27 := by omega
      have hr0 : ¬ ((r : Int) < 0) := by omega
      have hrow : r < rowL.length := by rw [rowL_len]; exact hrl
      obtain ⟨x, hx⟩ : ∃ x, rowL[r] = x := ⟨_, rfl⟩
      have hmem : x ∈ rowL := by rw [← hx]; exact List.getElem_mem hrow
      have hc : wr.cell? ⟨W.heap.size, r, none⟩ = some (.string (bs x)) := by
        rw [HB.out.cell, HRA.out, List.getElem?_toArray, List.getElem?_map, List.getElem?_eq_getElem hrow, hx]; rfl
      have HF0 := Lib.hid (show TL = pre0 ++ (tabRow first r 0 ((Lib.fields x).drop 0) ++ tabRows first (r + 1) (rowL.drop (r + 1))) by
        rw [HD.out, List.drop_eq_getElem_cons hrow, hx, tabRows_cons]; rfl)
      obtain ⟨hb, ht⟩ := HIs.out _ _ HI0.out
      have CF := Lib.hid (Tryz.strings_Fields (bs x) wr (by rw [bs_size]; have := row_small x hmem; omega) (fun j c h => row_ascii x hmem c (by rw [bs_toList] at h; exact List.mem_of_getElem? h)) ht)
      rw [bs_toList] at CF
      have hfl := row_fields x hmem
      generalize Lib.fields x = fs at HF0 CF hfl
      have HFL := Lib.hid hfl
      clear hb ht hfl hmem hx
      obtain ⟨F0, hF0⟩ : ∃ F0, F0 = wr.heap.size := ⟨_, rfl⟩
      have HF0L := Lib.hid (show W.heap.size ≤ F0 by have := HB.out.lt; omega)
      rw [← hF0] at CF
      have hbl : Below wr.heap.size wr (wr.alloc (.cells ((fs.map fun l => Value.string ⟨l.toArray⟩).toArray) 9)) := (Below.refl _ _).alloc (Nat.le_refl _) _
      have HI1 := Lib.hid (HI.out _ _ _ HI0.out hbl)
      have HK2 := Lib.hid (HK.out.below HK1.out hbl)
      have HB2 := Lib.hid (HB.out.below hbl HB.out.lt)
      have HFS := Lib.hid (blkAt (Blk.new wr 9 ((fs.map fun l => Value.string ⟨l.toArray⟩).toArray)) hF0.symm)
      clear hbl hF0
      gi_wp2_with (refine ⟨trivial, ?_⟩; gi_at_call 173; refine (callsIn_wide.2 CF.out).mono ?_; rintro e w2 ⟨rfl, rfl⟩)
      generalize wr.alloc (.cells ((fs.map fun l => Value.string ⟨l.toArray⟩).toArray) 9) = wo at HI1 HK2 HB2 HFS ⊢
      clear CF HB HI0 HK1 HD hc
      gi_loopw [17] (fun v17 wr => ∃ (i : Nat) (pre : List ((Int × Int) × List UInt8)), v17 = .int .i64 (i : Int) ∧ i ≤ fs.length ∧ Hid (TL = pre ++ (tabRow first r i (fs.drop i) ++ tabRows first (r + 1) (rowL.drop (r + 1)))) ∧ Hid (I pre wr) ∧ Hid (K wr) ∧ Hid (Blk wr W.heap.size 9 RA) ∧ Hid (Blk wr F0 9 ((fs.map fun l => Value.string ⟨l.toArray⟩).toArray))) (fun v17 _ => fs.length - (ixT v17).toNat)
      case atStart => exact ⟨0, pre0, rfl, by omega, HF0, HI1, HK2, HB2, HFS⟩
      case round =>
        obtain ⟨i, pre, rfl, hi, HF, HIr, HKr, HBr, HFr⟩ := hrel
        by_cases hlt : i < fs.length
        · have hlti : (i : Int) < (fs.length : Int) := by omega
          have hi0 : ¬ ((i : Int) < 0) := by omega
          have hw1 : IntKind.i64.wrap ((i : Int) + 1) = (i : Int) + 1 := by have := HFL.out; rw [IntKind.wrap_i64]; omega
          obtain ⟨c, hci⟩ : ∃ c, fs[i] = c := ⟨_, rfl⟩
          have hcell : wr.cell? ⟨F0, i, none⟩ = some (.string (bs c)) := by
            rw [HFr.out.cell, List.getElem?_toArray, List.getElem?_map, List.getElem?_eq_getElem hlt, hci]; rfl
          have hb := (HIs.out _ _ HIr.out).1
          have b0 := hb.cell 0
          clear hb
          rcases Bool.eq_false_or_eq_true first with hfst | hfst
          rotate_left 1
          · rw [hfst] at b0

            obtain ⟨cc, hcc⟩ : ∃ cc, codT first r i c = cc := ⟨_, rfl⟩
            have HN := Lib.hid (show TL = pre ++ ((((r : Int), (i : Int) + 1), cc) :: tabRow first r (i + 1) (fs.drop (i + 1)) ++ tabRows first (r + 1) (rowL.drop (r + 1))) by rw [HF.out, List.drop_eq_getElem_cons hlt, hci, tabRow_cons, hcc])
            have hce : cc = c := by rw [← hcc]; unfold codT; rw [hfst]; rfl
            clear hcc
            have hsp : pre ++ [(((r : Int), (i : Int) + 1), cc)] <+: TL := by rw [HN.out]; exact ⟨tabRow first r (i + 1) (fs.drop (i + 1)) ++ tabRows first (r + 1) (rowL.drop (r + 1)), by simp⟩
            obtain ⟨fn, tmps, assign, body, hyy, hR⟩ := HY.out pre (((r : Int), (i : Int) + 1), cc) wr HIr.out HKr.out hsp
            unfold encT at hyy
            dsimp only at hyy
            have HR := Lib.hid hR; have HSP := Lib.hid hsp
            clear hR hsp
            subst hce
            clear hfst
            gi_wp2_with fail
            refine HR.out.mono ?_
            rintro e W3 (⟨rfl, hI3, hk3, hkc3⟩ | ⟨rfl, hJx3⟩)
            · have HI3 := Lib.hid hI3; have HK3 := Lib.hid hk3; have HA3 := Lib.hid (hkc3.blk HBr.out (Nat.le_refl _)); have HF3 := Lib.hid (hkc3.blk HFr.out HF0L.out)
              clear hI3 hk3 hyy hkc3
              gi_wp2_with fail
              refine ⟨⟨i + 1, _, by simp, by omega, Lib.hid ?_, HI3, HK3, HA3, HF3⟩, ?_⟩
              · rw [HN.out]; simp
              · show fs.length - ((i : Int) + 1).toNat < fs.length - (i : Int).toNat
                omega
            · gi_wp2_with fail
              refine bodyPost_ret (results_none rfl _ _ _) rfl ?_
              exact ⟨⟨_, rfl⟩, .inr ⟨_, HSP.out, hJx3⟩⟩
          · rw [hfst] at b0
            by_cases hrz : r = 0
            · by_cases hiz : i = 0
              · have e1 : ((r : Int) == 0) = true := by rw [beq_iff_eq]; omega
                have e2 : ((i : Int) == 0) = true := by rw [beq_iff_eq]; omega

                obtain ⟨cc, hcc⟩ : ∃ cc, codT first r i c = cc := ⟨_, rfl⟩
                have HN := Lib.hid (show TL = pre ++ ((((r : Int), (i : Int) + 1), cc) :: tabRow first r (i + 1) (fs.drop (i + 1)) ++ tabRows first (r + 1) (rowL.drop (r + 1))) by rw [HF.out, List.drop_eq_getElem_cons hlt, hci, tabRow_cons, hcc])
                have hce : cc = [49] := by rw [← hcc]; unfold codT; rw [hfst, hrz, hiz]; rfl
                clear hcc
                have hsp : pre ++ [(((r : Int), (i : Int) + 1), cc)] <+: TL := by rw [HN.out]; exact ⟨tabRow first r (i + 1) (fs.drop (i + 1)) ++ tabRows first (r + 1) (rowL.drop (r + 1)), by simp⟩
                obtain ⟨fn, tmps, assign, body, hyy, hR⟩ := HY.out pre (((r : Int), (i : Int) + 1), cc) wr HIr.out HKr.out hsp
                unfold encT at hyy
                dsimp only at hyy
                rw [hce, show bs [49] = (⟨#[49]⟩ : ByteArray) from rfl] at hyy
                have HR := Lib.hid hR; have HSP := Lib.hid hsp
                clear hR hsp
                subst hce
                clear hfst hrz hiz
                gi_wp2_with fail
                refine HR.out.mono ?_
                rintro e W3 (⟨rfl, hI3, hk3, hkc3⟩ | ⟨rfl, hJx3⟩)
                · have HI3 := Lib.hid hI3; have HK3 := Lib.hid hk3; have HA3 := Lib.hid (hkc3.blk HBr.out (Nat.le_refl _)); have HF3 := Lib.hid (hkc3.blk HFr.out HF0L.out)
                  clear hI3 hk3 hyy hkc3
                  gi_wp2_with fail
                  refine ⟨⟨i + 1, _, by simp, by omega, Lib.hid ?_, HI3, HK3, HA3, HF3⟩, ?_⟩
                  · rw [HN.out]; simp
                  · show fs.length - ((i : Int) + 1).toNat < fs.length - (i : Int).toNat
                    omega
                · gi_wp2_with fail
                  refine bodyPost_ret (results_none rfl _ _ _) rfl ?_
                  exact ⟨⟨_, rfl⟩, .inr ⟨_, HSP.out, hJx3⟩⟩
              · have e1 : ((r : Int) == 0) = true := by rw [beq_iff_eq]; omega
                have e2 : ((i : Int) == 0) = false := by rw [beq_eq_false_iff_ne]; omega

                obtain ⟨cc, hcc⟩ : ∃ cc, codT first r i c = cc := ⟨_, rfl⟩
                have HN := Lib.hid (show TL = pre ++ ((((r : Int), (i : Int) + 1), cc) :: tabRow first r (i + 1) (fs.drop (i + 1)) ++ tabRows first (r + 1) (rowL.drop (r + 1))) by rw [HF.out, List.drop_eq_getElem_cons hlt, hci, tabRow_cons, hcc])
                have hce : cc = c := by rw [← hcc]; unfold codT; rw [hfst, hrz, show (i == 0) = false by simpa using hiz]; rfl
                clear hcc
                have hsp : pre ++ [(((r : Int), (i : Int) + 1), cc)] <+: TL := by rw [HN.out]; exact ⟨tabRow first r (i + 1) (fs.drop (i + 1)) ++ tabRows first (r + 1) (rowL.drop (r + 1)), by simp⟩
                obtain ⟨fn, tmps, assign, body, hyy, hR⟩ := HY.out pre (((r : Int), (i : Int) + 1), cc) wr HIr.out HKr.out hsp
                unfold encT at hyy
                dsimp only at hyy
                have HR := Lib.hid hR; have HSP := Lib.hid hsp
                clear hR hsp
                subst hce
                clear hfst hrz hiz
                gi_wp2_with fail
                refine HR.out.mono ?_
                rintro e W3 (⟨rfl, hI3, hk3, hkc3⟩ | ⟨rfl, hJx3⟩)
                · have HI3 := Lib.hid hI3; have HK3 := Lib.hid hk3; have HA3 := Lib.hid (hkc3.blk HBr.out (Nat.le_refl _)); have HF3 := Lib.hid (hkc3.blk HFr.out HF0L.out)
                  clear hI3 hk3 hyy hkc3
                  gi_wp2_with fail
                  refine ⟨⟨i + 1, _, by simp, by omega, Lib.hid ?_, HI3, HK3, HA3, HF3⟩, ?_⟩
                  · rw [HN.out]; simp
                  · show fs.length - ((i : Int) + 1).toNat < fs.length - (i : Int).toNat
                    omega
                · gi_wp2_with fail
                  refine bodyPost_ret (results_none rfl _ _ _) rfl ?_
                  exact ⟨⟨_, rfl⟩, .inr ⟨_, HSP.out, hJx3⟩⟩
            · have e1 : ((r : Int) == 0) = false := by rw [beq_eq_false_iff_ne]; omega

              obtain ⟨cc, hcc⟩ : ∃ cc, codT first r i c = cc := ⟨_, rfl⟩
              have HN := Lib.hid (show TL = pre ++ ((((r : Int), (i : Int) + 1), cc) :: tabRow first r (i + 1) (fs.drop (i + 1)) ++ tabRows first (r + 1) (rowL.drop (r + 1))) by rw [HF.out, List.drop_eq_getElem_cons hlt, hci, tabRow_cons, hcc])
              have hce : cc = c := by rw [← hcc]; unfold codT; rw [hfst, show (r == 0) = false by simpa using hrz]; rfl
              clear hcc
              have hsp : pre ++ [(((r : Int), (i : Int) + 1), cc)] <+: TL := by rw [HN.out]; exact ⟨tabRow first r (i + 1) (fs.drop (i + 1)) ++ tabRows first (r + 1) (rowL.drop (r + 1)), by simp⟩
              obtain ⟨fn, tmps, assign, body, hyy, hR⟩ := HY.out pre (((r : Int), (i : Int) + 1), cc) wr HIr.out HKr.out hsp
              unfold encT at hyy
              dsimp only at hyy
              have HR := Lib.hid hR; have HSP := Lib.hid hsp
              clear hR hsp
              subst hce
              clear hfst hrz
              gi_wp2_with fail
              refine HR.out.mono ?_
              rintro e W3 (⟨rfl, hI3, hk3, hkc3⟩ | ⟨rfl, hJx3⟩)
              · have HI3 := Lib.hid hI3; have HK3 := Lib.hid hk3; have HA3 := Lib.hid (hkc3.blk HBr.out (Nat.le_refl _)); have HF3 := Lib.hid (hkc3.blk HFr.out HF0L.out)
                clear hI3 hk3 hyy hkc3
                gi_wp2_with fail
                refine ⟨⟨i + 1, _, by simp, by omega, Lib.hid ?_, HI3, HK3, HA3, HF3⟩, ?_⟩
                · rw [HN.out]; simp
                · show fs.length - ((i : Int) + 1).toNat < fs.length - (i : Int).toNat
                  omega
              · gi_wp2_with fail
                refine bodyPost_ret (results_none rfl _ _ _) rfl ?_
                exact ⟨⟨_, rfl⟩, .inr ⟨_, HSP.out, hJx3⟩⟩
        · have hie : i = fs.length := by omega
          subst hie
          have hnl : ¬ ((fs.length : Int) < (fs.length : Int)) := by omega
          gi_wp2_with fail
          refine ⟨⟨r + 1, pre, by simp, by omega, Lib.hid (by have h := HF.out; rw [List.drop_length] at h; exact h), HIr, HKr, HBr⟩, ?_⟩
          show 27 - ((r : Int) + 1).toNat < 27 - (r : Int).toNat
          omega
    · have hre : r = 27 := by omega
      subst hre
      gi_wp2_with fail
      refine bodyPost_end (results_none rfl _ _ _) rfl ?_
      have he : TL = pre0 := by have h := HD.out; rw [show rowL.drop 27 = [] by kernel_rfl] at h; simpa [tabRows] using h
      exact ⟨⟨_, rfl⟩, .inl (by first | exact ⟨_, he.symm, HI0.out, HK1.out⟩ | exact ⟨by rw [he]; exact HI0.out, HK1.out⟩)⟩
end Go.Proofs.YtcojnigkgbmbmaaGreatDoor
namespace Go.Proofs.YtcojnigkgbmbmaaGreatDoor
open Go Go.RowKit
attribute [local go_sem] Oper.semAt_some
def matB (p : Int × Int) (x : (Int × Int) × List UInt8) : Bool := x.1.1 == p.1 && (x.1.2 == p.2 || x.1.2 == -p.2)
theorem shortC_cons (p : Int × Int) (x : (Int × Int) × List UInt8) (T : List ((Int × Int) × List UInt8)) : shortC p (x :: T) = if matB p x then x.2 else shortC p T := rfl
theorem shortC_pre {p : Int × Int} {pre T : List ((Int × Int) × List UInt8)} (h : ∀ x ∈ pre, matB p x = false) : shortC p (pre ++ T) = shortC p T := by
  induction pre with
  | nil => rfl
  | cons x pre ih =>
    rw [List.cons_append, shortC_cons, h x (by simp), ih (fun y hy => h y (by simp [hy]))]
    rfl
def ShL (h : Nat) (p : Int × Int) (first : Bool) : List CellF := [(h, 109, #[.int .i64 p.1, .int .i64 p.2]), (h + 1, 9, #[.string ⟨#[]⟩]), (h + 2, 4, #[.bool first])]
set_option maxRecDepth 100000 in
set_option maxHeartbeats 4000000 in
theorem coeff_short (p : Int × Int) (first : Bool) (w : World) (hT : Ts w) (hp : -127 ≤ p.2 ∧ p.2 ≤ 127) : Calls Tryz.prog 133 #[.agg #[.int .i64 p.1, .int .i64 p.2], .bool first] w fun e w' => e = .returned (.string (bs (shortC p (tabL first)))) ∧ Below w.heap.size w w' := by
  have HT := Lib.hid hT
  obtain ⟨p1, p2⟩ := p
  obtain ⟨hp1, hp2⟩ := hp
  dsimp only at hp1 hp2
  obtain ⟨TL, htl⟩ : ∃ TL, TL = tabL first := ⟨_, rfl⟩
  have SQ := Lib.hid (fun b I hI hIs => table_seq 4 (by decide) b first I hI hIs)
  rw [← htl] at SQ
  rw [← htl]
  clear htl hT
  obtain ⟨R, hR⟩ : ∃ R, R = shortC (p1, p2) TL := ⟨_, rfl⟩
  rw [← hR]
  have HR := Lib.hid hR
  clear hR
  refine (callsIn_wide (n := 5)).1 ?_
  refine callsIn_of_wp_marks Tryz.func133 rfl trivial ?_ rfl
  simp only [Tryz.ntmps133, List.size_toArray, List.length_cons, List.length_nil, Nat.reduceAdd, Nat.reduceSub, Array.replicate_succ, Array.replicate_zero, List.push_toArray, List.append_toArray, List.nil_append, List.cons_append]
  refine wpIn_wide.2 ?_
  go_wp2_with (go_at_call 158; refine (coeff_table first _).mono ?_; rintro e w' ⟨rfl, rfl⟩)
  simp only [Nat.add_assoc, Nat.reduceAdd]
  refine (wpIn_wide (n := 5)).1 ?_
  refine wp_gF (α := (Int × Int) × List UInt8) (enc := encT) (I := ICons w (fun pre (_ : Unit) => ∀ x ∈ pre, matB (p1, p2) x = false) (fun _ _ => ShL w.heap.size (p1, p2) first) (fun _ _ => [])) (I2 := ICons w (fun pre (_ : Unit) => ∀ x ∈ pre, matB (p1, p2) x = false) (fun _ _ => ShL w.heap.size (p1, p2) first) (fun _ _ => [])) (S := fun xs => xs = TL) (Sp := fun pre => pre <+: TL)
    rfl (by decide) (gf := 171) (lb := #[.pointer (some ⟨w.heap.size + 2, 0, none⟩)]) rfl trivial (enters_of Tryz.func171 (by kernel_rfl) rfl)
    (SQ.out (w.heap.size + 2) _ ic_below ?hIs) (fun _ => rfl)
    (fun cd _ W => RetC w [(w.heap.size + 1, 9, #[.string (bs R)])] cd W)
    (fun pre x g W => ICons w (fun pre (_ : Unit) => ∀ x ∈ pre, matB (p1, p2) x = false) (fun _ _ => (g, 109, #[.int .i64 x.1.1, .int .i64 x.1.2]) :: ShL w.heap.size (p1, p2) first) (fun _ _ => []) pre W)
    (own_ic (by simp; omega) _ _ _) (own_ic (by simp; omega) _ _ _) (fun cd => own_retC (by simp; omega) _ _) (fun x g => own_ic (by simp; omega) _ _ _) ?start ?round ?done ?stop
  case hIs =>
    rintro pre W ⟨⟨_, _, hc⟩⟩
    exact ⟨hc.2.1.tail.tail.head, HT.out.below hc.1⟩
  case start =>
    refine ⟨⟨(), (fun x hx => by cases hx), ?_, ?_, rowsAt_nil _⟩⟩
    · exact (((Below.refl _ _).alloc (Nat.le_refl _) _).alloc (by simp) _).alloc (by simp; omega) _
    · unfold ShL
      refine CellsAt.cons ?_ (CellsAt.cons ?_ (CellsAt.cons ?_ (cellsAt_nil _)))
      all_goals (repeat (first | (refine blkAt (Blk.new _ _ _) ?_; simp [World.size_alloc]; done) | refine Blk.alloc ?_ _))
  case round =>
    apply Exists.intro
    refine And.intro ?_ ?_
    · rintro lp pre x W ⟨⟨u, hu, hc⟩⟩ hsp
      have HU := Lib.hid hu; have HC := Lib.hid hc
      clear hu hc hsp
      unfold encT
      gi_wp2
      obtain ⟨g0, hg0⟩ : ∃ g0, W.heap.size = g0 := ⟨_, rfl⟩
      have hcc := cons_cell (cons_alloc HC.out (.cells #[.int .i64 x.1.1, .int .i64 x.1.2] 109)) (blkAt (Blk.new W 109 #[.int .i64 x.1.1, .int .i64 x.1.2]) hg0)
      rw [hg0]
      exact ⟨⟨g0, rfl, ⟨u, HU.out, hcc⟩⟩, kf_alloc (KeepsFrom.refl _ _) _, (KeepC.refl _ _).alloc _⟩
    · rintro lp pre x g W ⟨⟨u, hu, hc⟩⟩ hsp
      unfold ShL at hc
      have hs := hc.2.1
      have y0 := hs.head.cell 0
      have y1 := hs.head.cell 1
      have x0 := hs.tail.head.cell 0
      have x1 := hs.tail.head.cell 1
      have r0 := hs.tail.tail.head.cell 0
      have f0 := hs.tail.tail.head.frozen 0
      dsimp only at y0 y1 x0 x1 r0 f0
      obtain ⟨⟨q1, q2⟩, cc⟩ := x
      dsimp only at y0 y1 hc
      have HC := Lib.hid hc; have HU := Lib.hid hu; have HSP := Lib.hid hsp
      have hwn : wrap64 (-p2) = -p2 := by unfold wrap64; omega
      clear hc hu hsp hs
      cases e1 : (q1 == p1) with
      | false =>
        have HM := Lib.hid (show matB (p1, p2) ((q1, q2), cc) = false by unfold matB; dsimp only; rw [e1]; rfl)
        gi_wp2_with fail
        refine ⟨KeepsFrom.refl _ _, KeepC.refl _ _, ⟨⟨(), ?_, cons_drop HC.out⟩⟩⟩
        intro z hz
        rcases List.mem_append.1 hz with hz | hz
        · exact HU.out z hz
        · rw [List.mem_singleton] at hz; rw [hz]; exact HM.out
      | true =>
        cases e2 : (q2 == p2) with
        | true =>
          have HM := Lib.hid (show matB (p1, p2) ((q1, q2), cc) = true by unfold matB; dsimp only; rw [e1, e2]; rfl)
          gi_wp2_with fail
          have hRc : R = cc := by
            obtain ⟨t, ht⟩ := HSP.out
            rw [HR.out, ← ht, List.append_assoc, shortC_pre HU.out, List.singleton_append, shortC_cons, HM.out]; rfl
          have hs := HC.out
          refine ⟨kf_set (KeepsFrom.refl _ _) _ _, rfl, hs.1.setCell (p := ⟨w.heap.size + 1, 0, none⟩) (by show w.heap.size ≤ _; simp) _, CellsAt.cons ?_ (cellsAt_nil _), rowsAt_nil _⟩
          rw [hRc]
          exact hs.2.1.tail.tail.head.set_ 0 _
        | false =>
          cases e3 : (q2 == -p2) with
          | true =>
            have HM := Lib.hid (show matB (p1, p2) ((q1, q2), cc) = true by unfold matB; dsimp only; rw [e1, e2, e3]; rfl)
            gi_wp2_with fail
            have hRc : R = cc := by
              obtain ⟨t, ht⟩ := HSP.out
              rw [HR.out, ← ht, List.append_assoc, shortC_pre HU.out, List.singleton_append, shortC_cons, HM.out]; rfl
            have hs := HC.out
            refine ⟨kf_set (KeepsFrom.refl _ _) _ _, rfl, hs.1.setCell (p := ⟨w.heap.size + 1, 0, none⟩) (by show w.heap.size ≤ _; simp) _, CellsAt.cons ?_ (cellsAt_nil _), rowsAt_nil _⟩
            rw [hRc]
            exact hs.2.1.tail.tail.head.set_ 0 _
          | false =>
            have HM := Lib.hid (show matB (p1, p2) ((q1, q2), cc) = false by unfold matB; dsimp only; rw [e1, e2, e3]; rfl)
            gi_wp2_with fail
            refine ⟨KeepsFrom.refl _ _, KeepC.refl _ _, ⟨⟨(), ?_, cons_drop HC.out⟩⟩⟩
            intro z hz
            rcases List.mem_append.1 hz with hz | hz
            · exact HU.out z hz
            · rw [List.mem_singleton] at hz; rw [hz]; exact HM.out
  case done =>
    rintro D xs W hD rfl ⟨⟨u, hu, hc⟩⟩ hK
    have hRn : R = [] := by rw [HR.out]; have h := shortC_pre (T := []) hu; rw [List.append_nil] at h; rw [h]; rfl
    have hs := hc.2.1
    unfold ShL at hs
    have b1 := hs.tail.head
    dsimp only at b1
    have r0 := b1.cell 0
    have f0 := b1.frozen 0
    have HRN := Lib.hid hRn; have HB1 := Lib.hid b1; have HK := Lib.hid hK; have HBe := Lib.hid hc.1
    clear hRn hs b1 hc hu hK
    gi_wp2_with fail
    go_wp2_with fail
    have hDp : D ≠ w.heap.size + 1 := by simp at hD; omega
    have hK2 := (Below.heap_setCell W ⟨w.heap.size + 1, 0, none⟩ (.string ⟨#[]⟩) D hDp).trans HK.out
    have hc2 : CellsAt [(w.heap.size + 1, 9, #[.string (bs R)])] (W.setCell ⟨w.heap.size + 1, 0, none⟩ (.string ⟨#[]⟩)) := by
      rw [HRN.out]
      exact CellsAt.cons (HB1.out.set_ 0 _) (cellsAt_nil _)
    have hc4 := cells_put (o' := .deferred none) hc2 hK2 rfl
    have hb4 := below_put (o := .deferred none) (HBe.out.setCell (p := ⟨w.heap.size + 1, 0, none⟩) (by show w.heap.size ≤ _; simp) (.string ⟨#[]⟩)) (D := D) (by simp at hD; omega)
    have q0 := hc4.head.cell 0
    refine retM hK2 (v := .string (bs R)) ?_ ?_
    · simp [results, Tryz.results133, go_sem, q0]
    · exact ⟨rfl, hb4⟩
  case stop =>
    rintro D cd pre W hD hsp ⟨rfl, hbel, hcs, _⟩ hK
    have HBel := Lib.hid hbel; have HCS := Lib.hid hcs; have HK := Lib.hid hK
    clear hbel hcs hK hsp
    gi_wp2_with fail
    have hc4 := cells_put (o' := .deferred none) HCS.out HK.out rfl
    have hb4 := below_put (o := .deferred none) HBel.out (D := D) (by simp at hD; omega)
    have q0 := hc4.head.cell 0
    refine retM HK.out (v := .string (bs R)) ?_ ?_
    · simp [results, Tryz.results133, go_sem, q0]
    · exact ⟨rfl, hb4⟩
end Go.Proofs.YtcojnigkgbmbmaaGreatDoor
namespace Go.Proofs.YtcojnigkgbmbmaaGreatDoor
open Go Go.RowKit
theorem binD_dig (n m : Nat) : binD n m = digL n m := by
  induction m with
  | zero => rfl
  | succ m ih =>
    unfold digL at ih ⊢
    rw [List.range_succ_eq_map, List.map_cons, List.map_map, binD, ih]
    congr 1
    apply List.map_congr_left
    intro j hj
    have hj := List.mem_range.1 hj
    show _ = (fun j => if n / 2 ^ (m + 1 - 1 - j) % 2 = 0 then (48 : UInt8) else 49) (j + 1)
    dsimp only
    rw [show m + 1 - 1 - (j + 1) = m - 1 - j by omega]
theorem digL_mod (q n m : Nat) : digL (q * 2 ^ m + n) m = digL n m := by
  unfold digL
  apply List.map_congr_left
  intro j hj
  have hj := List.mem_range.1 hj
  have e : 2 ^ m = 2 ^ (m - 1 - j) * 2 ^ (j + 1) := by rw [← Nat.pow_add]; congr 1; omega
  have h : (q * 2 ^ m + n) / 2 ^ (m - 1 - j) % 2 = n / 2 ^ (m - 1 - j) % 2 := by
    rw [e, ← Nat.mul_assoc, Nat.mul_comm q, Nat.mul_assoc, Nat.mul_add_div (Nat.two_pow_pos _), Nat.pow_succ, ← Nat.mul_assoc, Nat.mul_add_mod_self_right]
  rw [h]
theorem bin_head (n m : Nat) (h : n < 2 ^ m) : binD (2 ^ m + n) (m + 1) = 49 :: digL n m := by
  rw [binD, binD_dig]
  have h1 := digL_mod 1 n m
  rw [Nat.one_mul] at h1
  rw [h1]
  congr 1
  unfold binC
  rw [Nat.add_div_left _ (Nat.two_pow_pos m), Nat.div_eq_of_lt h]
  rfl
theorem bs_join (a b : List UInt8) : bs a ++ bs b = bs (a ++ b) := by apply ByteArray.ext; simp [bs]
theorem coeff_text (n : Nat) (m : Nat) (hm : m = 6 ∨ m = 8) (hn : n < 2 ^ m) (w : World) (hT : Tz w) : Calls Tryz.prog 159 #[.int .i64 (n : Int), .int .i64 (m : Int)] w fun e w' => e = .returned (.string (bs (digL n m))) ∧ Below w.heap.size w w' := by
  have HT := Lib.hid hT
  clear hT
  rcases hm with rfl | rfl
  · have HF := Lib.hid (fun W hW => fmt2 ((n : Int) + 64) 6 (by omega) (by omega) (by decide) W hW)
    rw [show ((n : Int) + 64).toNat = 2 ^ 6 + n by omega, bin_head n 6 hn] at HF
    have hi : (n : Int) < 64 := by omega
    have hsh : (1 : Int) * 2 ^ 6 = 64 := by decide
    go_enter Tryz.func159, Tryz.ntmps159
    go_wp2_with (go_at_call 160; refine (HF.out _ HT.out).mono ?_; rintro e w2 ⟨rfl, hb2⟩; have HB2 := Lib.hid hb2; clear hb2)
    go_ret
    exact ⟨rfl, HB2.out⟩
  · have HF := Lib.hid (fun W hW => fmt2 ((n : Int) + 256) 8 (by omega) (by omega) (by decide) W hW)
    rw [show ((n : Int) + 256).toNat = 2 ^ 8 + n by omega, bin_head n 8 hn] at HF
    have hi : (n : Int) < 256 := by omega
    go_enter Tryz.func159, Tryz.ntmps159
    go_wp2_with (go_at_call 160; refine (HF.out _ HT.out).mono ?_; rintro e w2 ⟨rfl, hb2⟩; have HB2 := Lib.hid hb2; clear hb2)
    go_ret
    exact ⟨rfl, HB2.out⟩
set_option maxRecDepth 100000 in
set_option maxHeartbeats 2000000 in
theorem coeff_Escape (p : Int × Int) (w : World) (hT : Tz w) (hp : pairB p = true) : Calls Tryz.prog 134 #[.agg #[.int .i64 p.1, .int .i64 p.2]] w fun e w' => e = .returned (.tuple #[.string (bs (escP p)), .int .i64 0]) ∧ Below w.heap.size w w' := by
  have HT := Lib.hid hT
  have CPr := Lib.hid (fun W => coeff_pair p W)
  rw [hp] at CPr
  obtain ⟨a, b⟩ := p
  unfold pairB at hp
  simp only [Bool.and_eq_true, decide_eq_true_eq] at hp
  obtain ⟨⟨⟨⟨h1, h2⟩, h3⟩, h4⟩, _⟩ := hp
  obtain ⟨r, rfl⟩ := Int.eq_ofNat_of_zero_le h1
  unfold escP
  dsimp only at CPr ⊢
  rw [Int.toNat_natCast]
  obtain ⟨u, hu⟩ : ∃ u : Nat, b % 256 = (u : Int) := ⟨(b % 256).toNat, by omega⟩
  have hu2 : u < 256 := by omega
  rw [hu, Int.toNat_natCast]
  have C1 := Lib.hid (fun W hW => coeff_text r 6 (.inl rfl) (by omega) W hW)
  have C2 := Lib.hid (fun W hW => coeff_text u 8 (.inr rfl) (by omega) W hW)
  have hc1 : IntKind.i8.wrap b = b := by simp [IntKind.wrap, IntKind.bits, IntKind.signed]; omega
  have hc2 : IntKind.u8.wrap b = (u : Int) := by simp [IntKind.wrap, IntKind.bits, IntKind.signed]; omega
  have hui : (u : Int) < 256 := by omega
  have hd6 : (digL r 6).length = 6 := by simp [digL]
  have hd8 : (digL u 8).length = 8 := by simp [digL]
  have hwu : IntKind.i64.wrap (u : Int) = (u : Int) := by rw [IntKind.wrap_i64]; omega
  clear hT h1 hu
  go_enter Tryz.func134, Tryz.ntmps134
  go_wp2_with (go_at_call 132; refine (CPr.out _).mono ?_; rintro e w1 ⟨rfl, hb1⟩; have hlt := ((Blk.new w 109 #[.int .i64 (r : Int), .int .i64 b]).below hb1 (Blk.new w 109 #[.int .i64 (r : Int), .int .i64 b]).lt); have y0 := hlt.cell 0; have y1 := hlt.cell 1; have HB1 := Lib.hid hb1; have HL := Lib.hid hlt; clear hb1 hlt)
  have hA : Below w.heap.size w (w.alloc (.cells #[.int .i64 (r : Int), .int .i64 b] 109)) := (Below.refl w.heap.size w).alloc (Nat.le_refl _) _
  have hA1 := (hA.trans (HB1.out.mono hA.size)).drew
  have HT1 := Lib.hid (show Tz w1.drew from HT.out.below hA1)
  have HBa := Lib.hid hA1
  clear hA hA1
  refine wp_region_treeN (fun w' => w'.cell? ⟨w.heap.size, 0, none⟩ = some (.int .i64 (r : Int)) ∧ w'.cell? ⟨w.heap.size, 1, none⟩ = some (.int .i64 b)) 12 (.take 0 (.take 1 (.take 2 (.take 5 (.take 6 (.take 7 (.take 8 (.take 9 (.take 10 (.step 3 (.take 4 (.step 11 .done)))))))))))) (by kernel_rfl) (by kernel_rfl) (by simp only [Pln.out, Array.getD_eq_getD_getElem?, List.getElem?_toArray, List.getElem?_cons_zero, List.getElem?_cons_succ, Option.getD_some]; rfl) (by simp only [List.map_cons, List.map_nil]; rfl) (⟨y0, y1⟩) (fun PE hPE => ?_)
  iterate 9
    refine tree_take (v := ?_) rfl (by rfl) ?_ ?_
    rotate_left
    · intro _ hSw; (try dsimp only at hSw); obtain ⟨s0, s1⟩ := hSw; go_simp; (try with_reducible rfl)
    simp only [List.setIfInBounds_toArray, List.set_cons_zero, List.set_cons_succ]
  refine tree_call (f := 159) (args := #[.int .i64 (r : Int), .int .i64 6]) rfl (by rfl) ?_ (C1.out _ HT1.out) (fun e w2 hr => ?_)
  · go_simp
  obtain ⟨rfl, hb2⟩ := hr
  have hL2 : Blk w2 w.heap.size 109 #[.int .i64 (r : Int), .int .i64 b] := (HL.out.drew1).below hb2 HL.out.lt
  have HT2 := Lib.hid (HT1.out.below hb2)
  have HBb := Lib.hid (HBa.out.trans (hb2.mono HBa.out.size))
  refine ⟨_, rfl, _, fun _ h => h, ⟨hL2.cell 0, hL2.cell 1⟩, ?_⟩
  simp only [List.setIfInBounds_toArray, List.set_cons_zero, List.set_cons_succ]
  refine tree_take (v := ?_) rfl (by rfl) ?_ ?_
  rotate_left
  · intro _ hSw; (try dsimp only at hSw); go_simp; (try with_reducible rfl)
  simp only [List.setIfInBounds_toArray, List.set_cons_zero, List.set_cons_succ]
  refine tree_call (f := 159) (args := #[.int .i64 (u : Int), .int .i64 8]) rfl (by rfl) ?_ (C2.out _ HT2.out) (fun e w3 hr => ?_)
  · go_simp
  obtain ⟨rfl, hb3⟩ := hr
  have hL3 : Blk w3 w.heap.size 109 #[.int .i64 (r : Int), .int .i64 b] := hL2.below hb3 hL2.lt
  have HBc := Lib.hid (HBb.out.trans (hb3.mono HBb.out.size))
  refine ⟨_, rfl, _, fun _ h => h, ⟨hL3.cell 0, hL3.cell 1⟩, ?_⟩
  simp only [List.setIfInBounds_toArray, List.set_cons_zero, List.set_cons_succ]
  refine hPE _ _ ?_
  clear hPE PE
  simp only [List.drop_succ_cons, List.drop_zero, List.drop_nil]
  clear hb2 hb3 hL2 hL3 y0 y1
  go_wp2_with fail
  refine ⟨rfl, ?_⟩
  go_wp2_with fail
  go_ret2
  refine ⟨?_, HBc.out⟩
  show Ending.returned (.tuple #[.string (bs escC ++ bs (digL r 6) ++ bs (digL u 8)), .int .i64 0]) = _
  rw [bs_join, bs_join]
theorem shortC_len (p : Int × Int) : ∀ T : List ((Int × Int) × List UInt8), T.all (fun x => decide (x.2.length ≤ 20)) = true → (shortC p T).length ≤ 20
  | [], _ => by simp [shortC]
  | x :: T, h => by
    simp only [List.all_cons, Bool.and_eq_true, decide_eq_true_eq] at h
    rw [shortC_cons]
    split
    · exact h.1
    · exact shortC_len p T h.2
theorem tabL_len (first : Bool) : (tabL first).all (fun x => decide (x.2.length ≤ 20)) = true := by cases first <;> kernel_rfl
set_option maxRecDepth 100000 in
set_option maxHeartbeats 2000000 in
theorem coeff_Put (p : Int × Int) (first : Bool) (w : World) (hT : Tz w) (hS : Ts w) (hp : pairB p = true) : Calls Tryz.prog 96 #[.agg #[.int .i64 p.1, .int .i64 p.2], .bool first] w fun e w' => e = .returned (.tuple #[.string (bs (cputP p first)), .int .i64 0]) ∧ Below w.heap.size w w' := by
  have HT := Lib.hid hT; have HS := Lib.hid hS
  have CPr := Lib.hid (fun W => coeff_pair p W)
  rw [hp] at CPr
  have hp2 := hp
  unfold pairB at hp2
  simp only [Bool.and_eq_true, decide_eq_true_eq] at hp2
  have hr : -127 ≤ p.2 ∧ p.2 ≤ 127 := ⟨hp2.1.1.2, hp2.1.2⟩
  have CS := Lib.hid (fun W hW => coeff_short p first W hW hr)
  have CE := Lib.hid (fun W hW => coeff_Escape p W hW hp)
  have hlen := shortC_len p (tabL first) (tabL_len first)
  unfold cputP
  obtain ⟨R, hR⟩ : ∃ R, shortC p (tabL first) = R := ⟨_, rfl⟩
  rw [hR] at CS hlen ⊢
  obtain ⟨E, hE⟩ : ∃ E, escP p = E := ⟨_, rfl⟩
  rw [hE] at CE ⊢
  obtain ⟨a, b⟩ := p
  dsimp only at CPr CS CE ⊢
  clear hT hS hp hp2 hr hR hE
  have hA : Below w.heap.size w (w.alloc (.cells #[.int .i64 a, .int .i64 b] 109)) := (Below.refl w.heap.size w).alloc (Nat.le_refl _) _
  have HA := Lib.hid hA
  have HB := Lib.hid (Blk.new w 109 #[.int .i64 a, .int .i64 b])
  clear hA
  by_cases h0 : R = []
  · subst h0
    rw [if_pos (by rfl)]
    clear hlen
    go_enter Tryz.func96, Tryz.ntmps96
    go_wp2_with (first
      | (go_at_call 132; refine (CPr.out _).mono ?_; rintro e w1 ⟨rfl, hb1⟩; have hl := HB.out.below hb1 HB.out.lt; have y0 := hl.cell 0; have y1 := hl.cell 1; have HB1 := Lib.hid (HA.out.trans (hb1.mono HA.out.size)); have HL := Lib.hid hl; clear hb1 hl)
      | (go_at_call 133; refine (CS.out _ (HS.out.below HB1.out)).mono ?_; rintro e w2 ⟨rfl, hb2⟩; have hl2 := HL.out.below hb2 HL.out.lt; have z0 := hl2.cell 0; have z1 := hl2.cell 1; have HB2 := Lib.hid (HB1.out.trans (hb2.mono HB1.out.size)); clear hb2 hl2)
      | (go_at_call 134; refine (CE.out _ (HT.out.below HB2.out)).mono ?_; rintro e w3 ⟨rfl, hb3⟩; have HB3 := Lib.hid (HB2.out.trans (hb3.mono HB2.out.size)); clear hb3))
    go_ret2
    exact ⟨rfl, HB3.out⟩
  · have e1 : (R == []) = false := by simpa using h0
    have e2 : R.isEmpty = false := by simpa using h0
    rw [if_neg (by rw [e1]; decide)]
    have hl100 : R.length ≤ 100 := by omega
    clear h0 hlen
    by_cases hb : b < 0
    · have d1 : decide (b < 0) = true := decide_eq_true hb
      rw [if_pos hb]
      clear hb
      go_enter Tryz.func96, Tryz.ntmps96
      go_wp2_with (first
        | (go_at_call 132; refine (CPr.out _).mono ?_; rintro e w1 ⟨rfl, hb1⟩; have hl := HB.out.below hb1 HB.out.lt; have y0 := hl.cell 0; have y1 := hl.cell 1; have HB1 := Lib.hid (HA.out.trans (hb1.mono HA.out.size)); have HL := Lib.hid hl; clear hb1 hl)
        | (go_at_call 133; refine (CS.out _ (HS.out.below HB1.out)).mono ?_; rintro e w2 ⟨rfl, hb2⟩; have hl2 := HL.out.below hb2 HL.out.lt; have z0 := hl2.cell 0; have z1 := hl2.cell 1; have HB2 := Lib.hid (HB1.out.trans (hb2.mono HB1.out.size)); clear hb2 hl2))
      go_ret2
      rw [← bs_join]
      exact ⟨rfl, HB2.out⟩
    · have d1 : decide (b < 0) = false := decide_eq_false hb
      rw [if_neg hb]
      clear hb
      go_enter Tryz.func96, Tryz.ntmps96
      go_wp2_with (first
        | (go_at_call 132; refine (CPr.out _).mono ?_; rintro e w1 ⟨rfl, hb1⟩; have hl := HB.out.below hb1 HB.out.lt; have y0 := hl.cell 0; have y1 := hl.cell 1; have HB1 := Lib.hid (HA.out.trans (hb1.mono HA.out.size)); have HL := Lib.hid hl; clear hb1 hl)
        | (go_at_call 133; refine (CS.out _ (HS.out.below HB1.out)).mono ?_; rintro e w2 ⟨rfl, hb2⟩; have hl2 := HL.out.below hb2 HL.out.lt; have z0 := hl2.cell 0; have z1 := hl2.cell 1; have HB2 := Lib.hid (HB1.out.trans (hb2.mono HB1.out.size)); clear hb2 hl2))
      go_ret2
      rw [← bs_join]
      exact ⟨rfl, HB2.out⟩
end Go.Proofs.YtcojnigkgbmbmaaGreatDoor
namespace Go.Proofs.YtcojnigkgbmbmaaGreatDoor
open Go Go.RowKit
attribute [local go_sem] Oper.semAt_some
theorem spread_ok : ∀ (l : List (Int × Int)) (a : Int), 0 ≤ a → a ≤ 64 → spreadP l a = 0 → (l.length : Int) + a ≤ 64 ∧ ∀ p ∈ l, pairB p = true
  | [], a, h0, h1, _ => ⟨by simpa using h1, fun p hp => by cases hp⟩
  | p :: l, a, h0, h1, h => by
    rw [spread_cons] at h
    split at h
    · omega
    · rename_i c1
      split at h
      · omega
      · rename_i c2
        simp only [Bool.or_eq_true, Bool.not_eq_true', beq_iff_eq, decide_eq_true_eq, not_or, Bool.and_eq_false_iff, decide_eq_false_iff_not] at c1 c2
        obtain ⟨i1, i2⟩ := spread_ok l (a + p.1 + 1) (by omega) (by omega) h
        refine ⟨by simp only [List.length_cons]; omega, fun q hq => ?_⟩
        rcases List.mem_cons.1 hq with rfl | hq
        · simp only [pairB, Bool.and_eq_true, decide_eq_true_eq, bne_iff_ne, ne_eq]
          omega
        · exact i2 q hq
theorem bchk_ok {x : BlkM} {intra : Bool} (h : bchkP x intra = 0) : spreadP x.l (frstP intra) = 0 ∧ (intra = true → 1 ≤ x.dc ∧ x.dc ≤ 255) := by
  unfold bchkP at h
  split at h
  · omega
  · rename_i c1
    split at h
    · omega
    · refine ⟨h, fun hi => ?_⟩
      subst hi
      simp only [Bool.true_and, Bool.or_eq_true, beq_iff_eq, decide_eq_true_eq, not_or] at c1
      omega
theorem cputP_len (p : Int × Int) (f : Bool) : (cputP p f).length ≤ 21 := by
  unfold cputP
  split
  · simp [escP, digL, escC]
  · have h := shortC_len p (tabL f) (tabL_len f)
    rw [List.length_append]
    have h2 : (if p.2 < 0 then [(49 : UInt8)] else [48]).length = 1 := by split <;> rfl
    omega
theorem dig_take (d j : Nat) (h : j < 8) : (digL d 8).take (j + 1) = (digL d 8).take j ++ [if d / 2 ^ (7 - j) % 2 = 0 then 48 else 49] := by
  rw [List.take_add_one]
  congr 1
  have hh : (digL d 8)[j]? = some (if d / 2 ^ (7 - j) % 2 = 0 then 48 else 49) := by
    unfold digL
    rw [List.getElem?_map, List.getElem?_range h]
    rfl
  rw [hh]
  rfl
theorem dig_bit (d j : Nat) : (48 : Int) + ((d / 2 ^ j % 2 : Nat) : Int) = (((if d / 2 ^ j % 2 = 0 then 48 else 49 : UInt8).toNat : Nat) : Int) := by
  have h : d / 2 ^ j % 2 = 0 ∨ d / 2 ^ j % 2 = 1 := by omega
  rcases h with h | h <;> rw [h] <;> rfl
theorem bld_below' {T e : TypeId} {B b : Nat} {p : Value} {cs : List Value} {w w' : World} (h : Lib.BuilderAt T e B b p cs w) (hb : Below w.heap.size w w') : Lib.BuilderAt T e B b p cs w' := by
  have hl := h.lt
  obtain ⟨h1, v, hbk, ho, hne⟩ := h
  exact ⟨h1, v, (hb.block b hl).trans hbk, own_below ho hb (Nat.le_refl _), hne⟩
theorem bld_below {T e : TypeId} {B b : Nat} {cs : List Value} {w w' : World} (h : Lib.IsBuilder T e B b cs w) (hb : Below w.heap.size w w') : Lib.IsBuilder T e B b cs w' := by
  rcases h with h | h
  · exact .inl (bld_below' h hb)
  · exact .inr (bld_below' h hb)
theorem cons_one {w W W' : World} {p : CellF} {B : Nat} (h : Cons w [p] [] W) (hb : Below B W W') (h1 : w.heap.size ≤ B) (h2 : p.1 < B) : Cons w [p] [] W' :=
  ⟨h.1.trans (hb.mono h1), CellsAt.cons (h.2.1.head.below hb h2) (cellsAt_nil _), rowsAt_nil _⟩
set_option maxRecDepth 100000 in
set_option maxHeartbeats 8000000 in
theorem block_Put (x : BlkM) (A : Option Addr) (n c : Nat) (intra : Bool) (w : World) (hS : Sl w A (rowC pairC x.l)) (hn : x.l.length = n) (hc : bchkP x intra = 0) (hT : Tz w) (hs : Ts w) :
    Calls Tryz.prog 52 #[.agg #[.int .i64 x.dc, .slice A n c], .bool intra] w fun e w' => e = .returned (.tuple #[.string (bs (bputP x intra)), .int .i64 0]) ∧ Below w.heap.size w w' := by
  obtain ⟨hsp, hdc⟩ := bchk_ok hc
  have hfr : 0 ≤ frstP intra ∧ frstP intra ≤ 1 := by cases intra <;> decide
  obtain ⟨hln, hpr⟩ := spread_ok x.l (frstP intra) hfr.1 (by omega) hsp
  have hn64 : n ≤ 64 := by omega
  have C1 := Lib.hid (fun W hW => block_Check x A n c intra W hW hn (by omega))
  rw [hc] at C1
  obtain ⟨BP, hbp⟩ : ∃ BP, bputP x intra = BP := ⟨_, rfl⟩
  rw [hbp]
  unfold bputP at hbp
  obtain ⟨dc, l⟩ := x
  dsimp only at *
  have HS := Lib.hid hS; have HN := Lib.hid hn; have HT := Lib.hid hT; have Hs := Lib.hid hs; have HPR := Lib.hid hpr; have HBP := Lib.hid hbp
  clear hS hn hT hs hpr hbp hc hsp hfr hln
  have hX : Blk (w.alloc (.cells #[.int .i64 dc, .slice A n c] 81)) w.heap.size 81 #[.int .i64 dc, .slice A n c] := Blk.new w _ _
  have HX := Lib.hid hX
  have HB0 := Lib.hid ((Below.refl w.heap.size w).alloc (Nat.le_refl _) (.cells #[.int .i64 dc, .slice A n c] 81))
  have HS0 := Lib.hid (HS.out.below HB0.out)
  clear hX
  cases intra with
  | false =>
    simp only [Bool.not_false, Bool.false_eq_true, if_false, List.nil_append] at HBP
    clear hdc
    go_enter Tryz.func52, Tryz.ntmps52
    go_wp2_with (go_at_call 63; refine (C1.out _ HS0.out).mono ?_; rintro e w2 ⟨rfl, hb2⟩; have HX2 := Lib.hid (HX.out.below hb2 HX.out.lt); have HB2 := Lib.hid (HB0.out.trans (hb2.mono HB0.out.size)); clear hb2; have hz := HX2.out.alloc (.cells #[.pointer none, .slice none 0 0] 123); have x0 := hz.cell 0; have x1 := hz.cell 1; clear hz)
    obtain ⟨b, hb⟩ : ∃ b, w2.heap.size = b := ⟨_, rfl⟩
    have hB0 : Cons w [(w.heap.size, 81, #[.int .i64 dc, .slice A n c])] [] (w2.alloc (.cells #[.pointer none, .slice none 0 0] 123)) := ⟨HB2.out.alloc HB2.out.size _, CellsAt.cons (HX2.out.alloc _) (cellsAt_nil _), rowsAt_nil _⟩
    have hI0 : Lib.IsBuilder 123 5 b b [] (w2.alloc (.cells #[.pointer none, .slice none 0 0] 123)) := hb ▸ bld_new w2
    have hs0 : (w2.alloc (.cells #[.pointer none, .slice none 0 0] 123)).heap.size = b + 1 := by rw [World.size_alloc, hb]
    have hwb : w.heap.size < b := hb ▸ HX2.out.lt
    rw [hb]
    clear x0 x1
    generalize w2.alloc (.cells #[.pointer none, .slice none 0 0] 123) = W0 at hB0 hI0 hs0 ⊢
    have HC0 := Lib.hid hB0; have HI0 := Lib.hid hI0; have HZ0 := Lib.hid hs0; have HWB := Lib.hid hwb
    clear hb hB0 hI0 hs0 hwb HX2 HB2 HX HB0 HS0 C1
    go_loopg [35] n (fun g v => fun wr => ∃ (j : Nat) (acc : List UInt8), j + g = n ∧ v = .int .i64 (j : Int) ∧ acc.length ≤ 8 + 21 * j ∧ Hid (acc ++ (cputL (l.drop j) (if j = 0 then true else false) ++ endC) = BP) ∧ Hid (Lib.IsBuilder 123 5 b b (acc.map byteV) wr) ∧ Hid (Cons w [(w.heap.size, 81, #[.int .i64 dc, .slice A n c])] [] wr) ∧ Hid (b < wr.heap.size))
    case atStart => exact ⟨0, [], by omega, rfl, by simp, Lib.hid (by rw [← HBP.out]; simp), HI0, HC0, Lib.hid (by rw [HZ0.out]; omega)⟩
    case round =>
      obtain ⟨j, acc, hj, rfl, hacc, HA, HI, HC, HZ⟩ := hrel
      cases gk with
      | zero =>
        have hjn : j = n := by omega
        subst hjn
        have hlt : ¬ ((j : Int) < (j : Int)) := by omega
        have FIN : Hid (Calls Tryz.prog 98 #[.pointer (some ⟨b, 0, none⟩)] wr fun e w' => e = .returned (.string (bs acc)) ∧ Below b wr w') := Lib.hid (Tryz.Builder_String_any b b acc wr HI.out (by have := HZ.out; omega))
        have hl1 : acc.length ≤ 1352 := by omega
        have hl2 : endC.length = 2 := rfl
        have hl3 : acc.length + endC.length ≤ 1354 := by omega
        have HE := Lib.hid (show acc ++ endC = BP by have h := HA.out; rw [List.drop_eq_nil_of_le (by rw [HN.out]; omega)] at h; exact h)
        go_wp2_with (first | (go_at_call 98; refine FIN.out.mono ?_; rintro e w' ⟨rfl, hb1⟩; have HB1 := Lib.hid hb1; clear hb1) | (go_at_call 99; refine (coeff_End _).mono ?_; rintro e w' ⟨rfl, rfl⟩))
        go_ret2
        refine ⟨?_, HC.out.1.trans (HB1.out.mono (by have := HZ.out; have := HWB.out; omega))⟩
        rw [← HE.out, ← bs_append]; rfl
      | succ g =>
        have hlt : ((j : Int) < (n : Int)) := by omega
        have hjl : j < l.length := by rw [HN.out]; omega
        obtain ⟨ad, rfl, hab, c0, c1⟩ := sl_pair (HS.out.below HC.out.1) j hjl
        have HPJ := Lib.hid (HPR.out l[j] (List.getElem_mem _))
        have HD := Lib.hid (List.drop_eq_getElem_cons hjl)
        obtain ⟨⟨p1, p2⟩, hpe⟩ : ∃ p, l[j] = p := ⟨_, rfl⟩
        rw [hpe] at c0 c1 HPJ HD
        dsimp only at c0 c1
        have hw1 : IntKind.i64.wrap ((j : Int) + 1) = (j : Int) + 1 := by rw [IntKind.wrap_i64]; omega
        clear hpe hjl
        have HACC := Lib.hid hacc
        have HJ := Lib.hid hj
        obtain ⟨g0, hg0⟩ : ∃ g0, wr.heap.size = g0 := ⟨_, rfl⟩
        have HT1 := Lib.hid (HT.out.below (HC.out.1.alloc HC.out.1.size (.cells #[.int .i64 p1, .int .i64 p2] 109)))
        have Hs1 := Lib.hid (Hs.out.below (HC.out.1.alloc HC.out.1.size (.cells #[.int .i64 p1, .int .i64 p2] 109)))
        have CP := Lib.hid (fun f => coeff_Put (p1, p2) f _ HT1.out Hs1.out HPJ.out)
        dsimp only at CP
        have HW := Lib.hid (fun l2 w3 h1 h2 h3 => bld_writes b b (acc.map byteV) l2 w3 h1 h2 h3)
        obtain ⟨DJ, hdj⟩ : ∃ DJ, l.drop (j + 1) = DJ := ⟨_, rfl⟩
        rw [hdj] at HD
        have HDJ := Lib.hid hdj
        clear hdj hacc hj
        rcases Nat.eq_zero_or_pos j with hj0 | hj0
        · have HF := Lib.hid (cputP_len (p1, p2) true)
          have hj1 : ((j : Int) == 0) = true := by simp; omega
          have HJ0 := Lib.hid hj0
          clear hj0
          have HA2 : Hid (acc ++ cputP (p1, p2) true ++ (cputL DJ (if j + 1 = 0 then true else false) ++ endC) = BP) := Lib.hid (by
            have h := HA.out
            rw [HD.out, if_pos HJ0.out] at h
            rw [if_neg (by omega), ← h]
            show _ = acc ++ (cputP (p1, p2) true ++ cputL DJ false ++ endC)
            simp only [List.append_assoc])
          obtain ⟨cp, hcp⟩ : ∃ cp, cputP (p1, p2) true = cp := ⟨_, rfl⟩
          have CPF := Lib.hid (CP.out true)
          rw [hcp] at HF HA2 CPF
          clear hcp HA HD
          have HLEN := Lib.hid (show (acc.map byteV).length + cp.length ≤ 140737488355328 by rw [List.length_map]; have := HF.out; have := HACC.out; omega)
          go_wp2_with (first | (go_at_call 96; refine CPF.out.mono ?_; rintro e w3 ⟨rfl, hb3⟩; have HI3 := Lib.hid (bld_below (bld_below HI.out ((Below.refl _ _).alloc (Nat.le_refl _) _)) hb3); have HC3 := Lib.hid (cons_below (cons_alloc HC.out _) hb3); have HZ3 := Lib.hid (show b < w3.heap.size by have := HZ.out; have := hb3.size; simp at this; omega); clear hb3) | (go_at_call 97; refine (bld_writes b b _ _ _ HI3.out HLEN.out (Nat.le_of_lt HZ3.out)).mono ?_; rintro e w4 ⟨rfl, hI4, hb4⟩; have HI4 := Lib.hid hI4; have HC4 := Lib.hid (cons_one HC3.out hb4 (Nat.le_of_lt HWB.out) HWB.out); have HZ4 := Lib.hid (Nat.lt_of_lt_of_le HZ3.out hb4.size); clear hI4 hb4))
          go_roundg g
          case measure => omega
          case rel =>
            refine ⟨j + 1, acc ++ cp, by have := HJ.out; omega, rfl, by rw [List.length_append]; have := HF.out; have := HACC.out; omega, ?_, Lib.hid (by rw [List.map_append]; exact HI4.out), HC4, HZ4⟩
            rw [HDJ.out]
            exact HA2
        · have HF := Lib.hid (cputP_len (p1, p2) false)
          have hj1 : ((j : Int) == 0) = false := by simp; omega
          have HJ0 := Lib.hid hj0
          clear hj0
          have HA2 : Hid (acc ++ cputP (p1, p2) false ++ (cputL DJ (if j + 1 = 0 then true else false) ++ endC) = BP) := Lib.hid (by
            have h := HA.out
            rw [HD.out, if_neg (by have := HJ0.out; omega)] at h
            rw [if_neg (by omega), ← h]
            show _ = acc ++ (cputP (p1, p2) false ++ cputL DJ false ++ endC)
            simp only [List.append_assoc])
          obtain ⟨cp, hcp⟩ : ∃ cp, cputP (p1, p2) false = cp := ⟨_, rfl⟩
          have CPF := Lib.hid (CP.out false)
          rw [hcp] at HF HA2 CPF
          clear hcp HA HD
          have HLEN := Lib.hid (show (acc.map byteV).length + cp.length ≤ 140737488355328 by rw [List.length_map]; have := HF.out; have := HACC.out; omega)
          go_wp2_with (first | (go_at_call 96; refine CPF.out.mono ?_; rintro e w3 ⟨rfl, hb3⟩; have HI3 := Lib.hid (bld_below (bld_below HI.out ((Below.refl _ _).alloc (Nat.le_refl _) _)) hb3); have HC3 := Lib.hid (cons_below (cons_alloc HC.out _) hb3); have HZ3 := Lib.hid (show b < w3.heap.size by have := HZ.out; have := hb3.size; simp at this; omega); clear hb3) | (go_at_call 97; refine (bld_writes b b _ _ _ HI3.out HLEN.out (Nat.le_of_lt HZ3.out)).mono ?_; rintro e w4 ⟨rfl, hI4, hb4⟩; have HI4 := Lib.hid hI4; have HC4 := Lib.hid (cons_one HC3.out hb4 (Nat.le_of_lt HWB.out) HWB.out); have HZ4 := Lib.hid (Nat.lt_of_lt_of_le HZ3.out hb4.size); clear hI4 hb4))
          go_roundg g
          case measure => omega
          case rel =>
            refine ⟨j + 1, acc ++ cp, by have := HJ.out; omega, rfl, by rw [List.length_append]; have := HF.out; have := HACC.out; omega, ?_, Lib.hid (by rw [List.map_append]; exact HI4.out), HC4, HZ4⟩
            rw [HDJ.out]
            exact HA2
  | true =>
    obtain ⟨hd1, hd2⟩ := hdc rfl
    obtain ⟨d, rfl⟩ : ∃ d : Nat, dc = (d : Int) := ⟨dc.toNat, by omega⟩
    simp only [Bool.not_true, if_true, Int.toNat_natCast] at HBP
    go_enter Tryz.func52, Tryz.ntmps52
    go_wp2_with (go_at_call 63; refine (C1.out _ HS0.out).mono ?_; rintro e w2 ⟨rfl, hb2⟩; have HX2 := Lib.hid (HX.out.below hb2 HX.out.lt); have HB2 := Lib.hid (HB0.out.trans (hb2.mono HB0.out.size)); clear hb2; have hz := HX2.out.alloc (.cells #[.pointer none, .slice none 0 0] 123); have x0 := hz.cell 0; have x1 := hz.cell 1; clear hz)
    obtain ⟨b, hb⟩ : ∃ b, w2.heap.size = b := ⟨_, rfl⟩
    have hB0 : Cons w [(w.heap.size, 81, #[.int .i64 (d : Int), .slice A n c])] [] (w2.alloc (.cells #[.pointer none, .slice none 0 0] 123)) := ⟨HB2.out.alloc HB2.out.size _, CellsAt.cons (HX2.out.alloc _) (cellsAt_nil _), rowsAt_nil _⟩
    have hI0 : Lib.IsBuilder 123 5 b b [] (w2.alloc (.cells #[.pointer none, .slice none 0 0] 123)) := hb ▸ bld_new w2
    have hs0 : (w2.alloc (.cells #[.pointer none, .slice none 0 0] 123)).heap.size = b + 1 := by rw [World.size_alloc, hb]
    have hwb : w.heap.size < b := hb ▸ HX2.out.lt
    rw [hb]
    clear x0 x1
    generalize w2.alloc (.cells #[.pointer none, .slice none 0 0] 123) = W0 at hB0 hI0 hs0 ⊢
    have HC0 := Lib.hid hB0; have HI0 := Lib.hid hI0; have HZ0 := Lib.hid hs0; have HWB := Lib.hid hwb
    clear hb hB0 hI0 hs0 hwb HX2 HB2 HX HB0 HS0 C1
    go_loopg [8] 8 (fun g v => fun wr => ∃ j : Nat, j + g = 8 ∧ v = .int .i64 (7 - (j : Int)) ∧ Hid (Lib.IsBuilder 123 5 b b (((digL d 8).take j).map byteV) wr) ∧ Hid (Cons w [(w.heap.size, 81, #[.int .i64 (d : Int), .slice A n c])] [] wr) ∧ Hid (b < wr.heap.size))
    case atStart => exact ⟨0, by omega, rfl, HI0, HC0, Lib.hid (by rw [HZ0.out]; omega)⟩
    case round =>
      obtain ⟨j, hj, rfl, HI1, HC1, HZ1⟩ := hrel
      have hs := HC1.out.2.1.head
      dsimp only at hs
      have x0 := hs.cell 0; have x1 := hs.cell 1
      clear hs
      cases gk with
      | zero =>
        obtain rfl : j = 8 := by omega
        have hlt : ¬ (0 ≤ 7 - ((8 : Nat) : Int)) := by omega
        go_wp2_with fail
        have HI1 : Hid (Lib.IsBuilder 123 5 b b ((digL d 8).map byteV) wr) := Lib.hid (by have h := HI1.out; rwa [List.take_of_length_le (by simp [digL])] at h)
        clear x0 x1
        go_loopg [35] n (fun g v => fun wr => ∃ (j : Nat) (acc : List UInt8), j + g = n ∧ v = .int .i64 (j : Int) ∧ acc.length ≤ 8 + 21 * j ∧ Hid (acc ++ (cputL (l.drop j) (if j = 0 then false else false) ++ endC) = BP) ∧ Hid (Lib.IsBuilder 123 5 b b (acc.map byteV) wr) ∧ Hid (Cons w [(w.heap.size, 81, #[.int .i64 (d : Int), .slice A n c])] [] wr) ∧ Hid (b < wr.heap.size))
        case atStart => exact ⟨0, digL d 8, by omega, rfl, by simp [digL], Lib.hid (by rw [← HBP.out]; simp), HI1, HC1, HZ1⟩
        case round =>
          obtain ⟨j, acc, hj, rfl, hacc, HA, HI, HC, HZ⟩ := hrel
          cases gk with
          | zero =>
            have hjn : j = n := by omega
            subst hjn
            have hlt : ¬ ((j : Int) < (j : Int)) := by omega
            have FIN : Hid (Calls Tryz.prog 98 #[.pointer (some ⟨b, 0, none⟩)] wr fun e w' => e = .returned (.string (bs acc)) ∧ Below b wr w') := Lib.hid (Tryz.Builder_String_any b b acc wr HI.out (by have := HZ.out; omega))
            have hl1 : acc.length ≤ 1352 := by omega
            have hl2 : endC.length = 2 := rfl
            have hl3 : acc.length + endC.length ≤ 1354 := by omega
            have HE := Lib.hid (show acc ++ endC = BP by have h := HA.out; rw [List.drop_eq_nil_of_le (by rw [HN.out]; omega)] at h; exact h)
            go_wp2_with (first | (go_at_call 98; refine FIN.out.mono ?_; rintro e w' ⟨rfl, hb1⟩; have HB1 := Lib.hid hb1; clear hb1) | (go_at_call 99; refine (coeff_End _).mono ?_; rintro e w' ⟨rfl, rfl⟩))
            go_ret2
            refine ⟨?_, HC.out.1.trans (HB1.out.mono (by have := HZ.out; have := HWB.out; omega))⟩
            rw [← HE.out, ← bs_append]; rfl
          | succ g =>
            have hlt : ((j : Int) < (n : Int)) := by omega
            have hjl : j < l.length := by rw [HN.out]; omega
            obtain ⟨ad, rfl, hab, c0, c1⟩ := sl_pair (HS.out.below HC.out.1) j hjl
            have HPJ := Lib.hid (HPR.out l[j] (List.getElem_mem _))
            have HD := Lib.hid (List.drop_eq_getElem_cons hjl)
            obtain ⟨⟨p1, p2⟩, hpe⟩ : ∃ p, l[j] = p := ⟨_, rfl⟩
            rw [hpe] at c0 c1 HPJ HD
            dsimp only at c0 c1
            have hw1 : IntKind.i64.wrap ((j : Int) + 1) = (j : Int) + 1 := by rw [IntKind.wrap_i64]; omega
            clear hpe hjl
            have HACC := Lib.hid hacc
            have HJ := Lib.hid hj
            obtain ⟨g0, hg0⟩ : ∃ g0, wr.heap.size = g0 := ⟨_, rfl⟩
            have HT1 := Lib.hid (HT.out.below (HC.out.1.alloc HC.out.1.size (.cells #[.int .i64 p1, .int .i64 p2] 109)))
            have Hs1 := Lib.hid (Hs.out.below (HC.out.1.alloc HC.out.1.size (.cells #[.int .i64 p1, .int .i64 p2] 109)))
            have CP := Lib.hid (fun f => coeff_Put (p1, p2) f _ HT1.out Hs1.out HPJ.out)
            dsimp only at CP
            have HW := Lib.hid (fun l2 w3 h1 h2 h3 => bld_writes b b (acc.map byteV) l2 w3 h1 h2 h3)
            obtain ⟨DJ, hdj⟩ : ∃ DJ, l.drop (j + 1) = DJ := ⟨_, rfl⟩
            rw [hdj] at HD
            have HDJ := Lib.hid hdj
            clear hdj hacc hj
            rcases Nat.eq_zero_or_pos j with hj0 | hj0
            · have HF := Lib.hid (cputP_len (p1, p2) false)
              have hj1 : ((j : Int) == 0) = true := by simp; omega
              have HJ0 := Lib.hid hj0
              clear hj0
              have HA2 : Hid (acc ++ cputP (p1, p2) false ++ (cputL DJ (if j + 1 = 0 then false else false) ++ endC) = BP) := Lib.hid (by
                have h := HA.out
                rw [HD.out, if_pos HJ0.out] at h
                rw [if_neg (by omega), ← h]
                show _ = acc ++ (cputP (p1, p2) false ++ cputL DJ false ++ endC)
                simp only [List.append_assoc])
              obtain ⟨cp, hcp⟩ : ∃ cp, cputP (p1, p2) false = cp := ⟨_, rfl⟩
              have CPF := Lib.hid (CP.out false)
              rw [hcp] at HF HA2 CPF
              clear hcp HA HD
              have HLEN := Lib.hid (show (acc.map byteV).length + cp.length ≤ 140737488355328 by rw [List.length_map]; have := HF.out; have := HACC.out; omega)
              go_wp2_with (first | (go_at_call 96; refine CPF.out.mono ?_; rintro e w3 ⟨rfl, hb3⟩; have HI3 := Lib.hid (bld_below (bld_below HI.out ((Below.refl _ _).alloc (Nat.le_refl _) _)) hb3); have HC3 := Lib.hid (cons_below (cons_alloc HC.out _) hb3); have HZ3 := Lib.hid (show b < w3.heap.size by have := HZ.out; have := hb3.size; simp at this; omega); clear hb3) | (go_at_call 97; refine (bld_writes b b _ _ _ HI3.out HLEN.out (Nat.le_of_lt HZ3.out)).mono ?_; rintro e w4 ⟨rfl, hI4, hb4⟩; have HI4 := Lib.hid hI4; have HC4 := Lib.hid (cons_one HC3.out hb4 (Nat.le_of_lt HWB.out) HWB.out); have HZ4 := Lib.hid (Nat.lt_of_lt_of_le HZ3.out hb4.size); clear hI4 hb4))
              go_roundg g
              case measure => omega
              case rel =>
                refine ⟨j + 1, acc ++ cp, by have := HJ.out; omega, rfl, by rw [List.length_append]; have := HF.out; have := HACC.out; omega, ?_, Lib.hid (by rw [List.map_append]; exact HI4.out), HC4, HZ4⟩
                rw [HDJ.out]
                exact HA2
            · have HF := Lib.hid (cputP_len (p1, p2) false)
              have hj1 : ((j : Int) == 0) = false := by simp; omega
              have HJ0 := Lib.hid hj0
              clear hj0
              have HA2 : Hid (acc ++ cputP (p1, p2) false ++ (cputL DJ (if j + 1 = 0 then false else false) ++ endC) = BP) := Lib.hid (by
                have h := HA.out
                rw [HD.out, if_neg (by have := HJ0.out; omega)] at h
                rw [if_neg (by omega), ← h]
                show _ = acc ++ (cputP (p1, p2) false ++ cputL DJ false ++ endC)
                simp only [List.append_assoc])
              obtain ⟨cp, hcp⟩ : ∃ cp, cputP (p1, p2) false = cp := ⟨_, rfl⟩
              have CPF := Lib.hid (CP.out false)
              rw [hcp] at HF HA2 CPF
              clear hcp HA HD
              have HLEN := Lib.hid (show (acc.map byteV).length + cp.length ≤ 140737488355328 by rw [List.length_map]; have := HF.out; have := HACC.out; omega)
              go_wp2_with (first | (go_at_call 96; refine CPF.out.mono ?_; rintro e w3 ⟨rfl, hb3⟩; have HI3 := Lib.hid (bld_below (bld_below HI.out ((Below.refl _ _).alloc (Nat.le_refl _) _)) hb3); have HC3 := Lib.hid (cons_below (cons_alloc HC.out _) hb3); have HZ3 := Lib.hid (show b < w3.heap.size by have := HZ.out; have := hb3.size; simp at this; omega); clear hb3) | (go_at_call 97; refine (bld_writes b b _ _ _ HI3.out HLEN.out (Nat.le_of_lt HZ3.out)).mono ?_; rintro e w4 ⟨rfl, hI4, hb4⟩; have HI4 := Lib.hid hI4; have HC4 := Lib.hid (cons_one HC3.out hb4 (Nat.le_of_lt HWB.out) HWB.out); have HZ4 := Lib.hid (Nat.lt_of_lt_of_le HZ3.out hb4.size); clear hI4 hb4))
              go_roundg g
              case measure => omega
              case rel =>
                refine ⟨j + 1, acc ++ cp, by have := HJ.out; omega, rfl, by rw [List.length_append]; have := HF.out; have := HACC.out; omega, ?_, Lib.hid (by rw [List.map_append]; exact HI4.out), HC4, HZ4⟩
                rw [HDJ.out]
                exact HA2
      | succ g =>
        have hlt : (0 ≤ 7 - (j : Int)) := by omega
        have hw1 : IntKind.i64.wrap (7 - (j : Int) - 1) = 7 - ((j : Int) + 1) := by rw [IntKind.wrap_i64]; omega
        have HLEN := Lib.hid (show (((digL d 8).take j).map byteV).length + 1 ≤ 140737488355328 by rw [List.length_map, List.length_take]; omega)
        have HTK := Lib.hid (dig_take d j (by omega))
        have HDB := Lib.hid (dig_bit d (7 - j))
        go_wp2_with (go_at_call 95; refine (bld_write b b _ (48 + (d : Int) / 2 ^ (7 - j) % 2) _ HI1.out HLEN.out (Nat.le_of_lt HZ1.out)).mono ?_; rintro e w4 ⟨rfl, hI4, hb4⟩; have HI4 := Lib.hid hI4; have HC4 := Lib.hid (cons_one HC1.out hb4 (Nat.le_of_lt HWB.out) HWB.out); have HZ4 := Lib.hid (Nat.lt_of_lt_of_le HZ1.out hb4.size); clear hI4 hb4)
        go_roundg g
        case measure => omega
        case rel =>
          refine ⟨j + 1, by omega, by congr 1, Lib.hid ?_, HC4, HZ4⟩
          have h := HI4.out
          rw [HTK.out, List.map_append]
          rw [show (48 + (d : Int) / 2 ^ (7 - j) % 2) = (48 : Int) + ((d / 2 ^ (7 - j) % 2 : Nat) : Int) by push_cast; rfl, HDB.out] at h
          exact h
end Go.Proofs.YtcojnigkgbmbmaaGreatDoor
