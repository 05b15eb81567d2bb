/- AddressGets. -/
import Derived.Test.YtedjplbiibflmaaDoorLaw04
import Derived.Test.YtedjplbiibflmaaDoorRef04g
namespace Go.Proofs.YtedjplbiibflmaaDoor
open Go Go.RowKit
set_option maxRecDepth 100000 in
set_option maxHeartbeats 2000000 in
theorem law04_AddressGets (A : Option Addr) (n c : Nat) (l : List UInt8) (i : Int) (w : World) (hT : Tz w) (hr : Sl w A (l.map byteV)) (hn : l.length = n) (hi : -9223372036854775808 ≤ i ∧ i ≤ 9223372036854775807) :
    Calls Tryd.prog 3 #[.slice A n c, .int .i64 i] w fun e w' => e = .returned (.bool true) ∧ Below w.heap.size w w' := by
  have HT := Lib.hid hT; clear hT
  have HA := Lib.hid hr; clear hr
  by_cases h100 : 100 < n
  · have e1 : decide (100 < (n : Int)) = true := by simp; omega
    go_enter Tryd.func3, Tryd.ntmps3
    go_wp2_with fail
    refine (law04_awake w HT.out).mono ?_
    rintro e w1 ⟨rfl, hb⟩
    go_wp2_with fail
    go_ret
    exact ⟨rfl, hb⟩
  · have e1 : decide (100 < (n : Int)) = false := by simp; omega
    have Hn := Lib.hid hn; clear hn
    have G1 := Lib.hid (fun (B : Option Addr) (d : Nat) (W : World) (h : Tz W) (hs : Sl W B (l.map byteV)) => address_Get B n d l i W h hs Hn.out (by omega) hi)
    have G2 := Lib.hid (fun (W : World) (hs : Sl W A (l.map byteV)) => ref04_Get A n c l i W hs Hn.out (by omega) hi)
    generalize (getR l i).1 = x1 at G1 G2
    generalize (getR l i).2.1 = x2 at G1 G2
    generalize (getR l i).2.2 = x3 at G1 G2
    have q1 : (x1 == x1) = true := beq_self_eq_true x1
    have q2 : (x2 == x2) = true := beq_self_eq_true x2
    have q3 : (x3 == x3) = true := beq_self_eq_true x3
    go_enter Tryd.func3, Tryd.ntmps3
    go_wp2_with fail
    refine (kit_LentBytes A n c l w HA.out Hn.out (by omega)).mono ?_
    rintro e w1 ⟨B, d, rfl, hS, hd, hd2, hb1⟩
    have B1 := Lib.hid hb1; have HS := Lib.hid hS; clear hb1 hS
    have hSl : Sl w1 B (l.map byteV) := by have := HS.out.take l.length; rw [List.map_append, List.take_append_of_le_length (by simp), List.take_of_length_le (by simp)] at this; exact this
    have HSl := Lib.hid hSl; clear hSl
    go_wp2_with fail
    refine (G1.out B d w1 (HT.out.below B1.out) HSl.out).mono ?_
    rintro e w2 ⟨rfl, hb⟩
    have B2 := Lib.hid (B1.out.trans (hb.mono B1.out.size)); have HS2 := Lib.hid (HS.out.below hb); clear hb B1
    go_wp2_with fail
    refine (G2.out w2 (HA.out.below B2.out)).mono ?_
    rintro e w3 ⟨rfl, hb⟩
    have B3 := Lib.hid (B2.out.trans (hb.mono B2.out.size)); have HS3 := Lib.hid (HS2.out.below hb); clear hb B2
    go_wp2_with fail
    refine (kit_KeptBytes B A n d c l w3 HS3.out (HA.out.below B3.out) Hn.out hd hd2).mono ?_
    rintro e w4 ⟨rfl, hb⟩
    have B4 := Lib.hid (B3.out.trans (hb.mono B3.out.size)); clear hb B3
    go_wp2_with fail
    refine (law04_awake _ (HT.out.below B4.out)).mono ?_
    rintro e w5 ⟨rfl, hb⟩
    go_wp2_with fail
    go_ret
    exact ⟨rfl, B4.out.trans (hb.mono B4.out.size)⟩
end Go.Proofs.YtedjplbiibflmaaDoor
