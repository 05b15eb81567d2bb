/- The reference of layer 4: numbers, Get. -/
import Derived.Test.YtedjplbiibflmaaDoorPlain04
namespace Go.Proofs.YtedjplbiibflmaaDoor
open Go Go.RowKit
def upTo (n : Nat) : List Int := (List.range n).map fun (k : Nat) => (k : Int)
theorem upTo_succ (n : Nat) : (upTo (n + 1)).map intV = (upTo n).map intV ++ [intV n] := by simp [upTo, List.range_succ]
set_option maxHeartbeats 1000000 in
theorem ref04_numbers (w : World) : Calls Tryd.prog 32 #[] w (SlPost 35 (ns35.map intV) w) := by
  go_enter Tryd.func32, Tryd.ntmps32
  go_wp2_with fail
  go_loopg [1, 2] 35 (fun g v i => fun wr => ∃ (j : Nat), j + g = 35 ∧ i = .int .i64 (j : Int) ∧ wr.ownsRow w.heap.size 3 1 v j ((upTo j).map intV) ∧ Below w.heap.size w wr)
  case atStart => exact ⟨0, by omega, rfl, World.ownsRow_nil _ _ _ _, Below.refl _ _⟩
  case round =>
    obtain ⟨j, hj, rfl, ho, hb⟩ := hrel
    cases gk with
    | zero =>
      obtain rfl : j = 35 := by omega
      obtain ⟨A, c, rfl, hS⟩ := own_sl ho
      go_wp2_with fail
      go_ret
      exact ⟨A, c, rfl, hS, hb⟩
    | succ g =>
      have hlt : (j : Int) ≤ 34 := by omega
      have Ho := Lib.hid ho; clear ho
      have hbs := hb.size
      go_wp2_with (at_builtin; refine wpList_app etInt rfl rfl rfl (Ho.out.alloc _) rfl (m := 1) (news := [intV j]) rfl (Blk.sl (Blk.new wr 3 #[intV j]) 0) (by intro u hu; simp [intV] at hu; subst hu; rfl) (by omega) (by simp; omega) ?_; intro v1 w1 ho1 hg1 _; have Ho1 := Lib.hid ho1; clear ho1; have Hg1 := Lib.hid hg1; clear hg1)
      go_roundg g
      case measure => omega
      case rel =>
        refine ⟨j + 1, by omega, rfl, ?_, below_app (hb.alloc hb.size _) (Ho.out.alloc _) Hg1.out (by have := hb.size; simp; omega) (Nat.le_refl _)⟩
        rw [upTo_succ]; exact Ho1.out
set_option maxRecDepth 100000 in
set_option maxHeartbeats 1000000 in
theorem ref04_Get (A : Option Addr) (n c : Nat) (l : List UInt8) (i : Int) (w : World) (hA : Sl w A (l.map byteV)) (hn : l.length = n) (hsz : n ≤ 2 ^ 47) (hi : -9223372036854775808 ≤ i ∧ i ≤ 9223372036854775807) :
    Calls Tryd.prog 12 #[.slice A n c, .int .i64 i] w fun e w' => e = .returned (.tuple #[.int .i64 (getR l i).1, .int .i64 (getR l i).2.1, .int .i64 (getR l i).2.2]) ∧ Below w.heap.size w w' := by
  rw [getR_eq]
  have Gt := Lib.hid (fun (b : Nat) (W : World) (h : TreeAt W b 35 codes35 ns35) (hA : Sl W A (l.map byteV)) => ref03_Get b A n 35 c codes35 ns35 l i W h rfl rfl (by decide) (by kernel_rfl) hA hn hsz hi)
  have HA := Lib.hid hA; clear hA hn
  generalize treeR codes35 ns35 l i = R at Gt
  obtain ⟨r1, r2, r3⟩ := R
  go_enter Tryd.func12, Tryd.ntmps12
  go_wp2_with fail
  refine (ref04_Codes w).mono ?_
  rintro e w1 ⟨X, rfl, hX, hb1⟩
  have B1 := Lib.hid hb1; have HX := Lib.hid hX; clear hb1 hX
  go_wp2_with fail
  refine (ref04_numbers w1).mono ?_
  rintro e w2 ⟨Y, y, rfl, hY, hb2⟩
  have HX2 := Lib.hid (HX.out.below hb2)
  have B2 := Lib.hid (B1.out.trans (hb2.mono B1.out.size)); have HY := Lib.hid hY; clear hb2 hY B1
  go_wp2_with fail
  refine (ref03_Make X Y 35 35 y codes35 ns35 w2 HX2.out HY.out rfl rfl (by decide) (by decide) (by kernel_rfl) (by kernel_rfl)).mono ?_
  rintro e w3 ⟨b, rfl, hT, hb3⟩
  have B3 := Lib.hid (B2.out.trans (hb3.mono B2.out.size)); have HT := Lib.hid hT; clear hb3 hT B2
  go_wp2_with fail
  refine (Gt.out b w3 HT.out (HA.out.below B3.out)).mono ?_
  rintro e w4 ⟨rfl, hb4⟩
  have B4 := Lib.hid (B3.out.trans (hb4.mono B3.out.size)); clear hb4 B3
  by_cases h34 : r1 = 34
  · have q : (r1 == 34) = true := by simpa using h34
    have hf : fix34 (r1, r2, r3) = (34, 0, r3) := by simp [fix34, h34]
    have Hf := Lib.hid hf; clear hf h34
    go_wp2_with fail
    go_ret3
    rw [Hf.out]
    exact ⟨rfl, B4.out⟩
  · have q : (r1 == 34) = false := by simpa using h34
    have hf : fix34 (r1, r2, r3) = (r1, r2, r3) := by simp [fix34, h34]
    have Hf := Lib.hid hf; clear hf h34
    go_wp2_with fail
    go_ret3
    rw [Hf.out]
    exact ⟨rfl, B4.out⟩
end Go.Proofs.YtedjplbiibflmaaDoor
