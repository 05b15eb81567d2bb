/- The statements' helpers of layer 4: gets, puts, code, awake. -/
import Derived.Test.YtedjplbiibflmaaDoorAddrG
import Derived.Test.YtedjplbiibflmaaDoorKit
namespace Go.Proofs.YtedjplbiibflmaaDoor
open Go Go.RowKit
set_option maxHeartbeats 400000 in
theorem law04_gets (A : Option Addr) (n c : Nat) (l : List UInt8) (i x y z : Int) (w : World) (hT : Tz w) (hr : Sl w A (l.map byteV)) (hn : l.length = n) (hsz : n ≤ 2 ^ 47) (hi : -9223372036854775808 ≤ i ∧ i ≤ 9223372036854775807) (hg : getR l i = (x, y, z)) :
    Calls Tryd.prog 22 #[.slice A n c, .int .i64 i, .int .i64 x, .int .i64 y, .int .i64 z] w fun e w' => e = .returned (.bool true) ∧ Below w.heap.size w w' := by
  have H := Lib.hid (address_Get A n c l i w hT hr hn hsz hi)
  rw [hg] at H
  clear hg
  go_enter Tryd.func22, Tryd.ntmps22
  go_wp2_with (go_at_call 11; refine H.out.mono ?_; rintro e w1 ⟨rfl, hb⟩)
  go_ret
  exact ⟨rfl, hb⟩
set_option maxHeartbeats 400000 in
theorem law04_puts (d : Int) (c : List UInt8) (s : ByteArray) (hs : s = bs c) (w : World) (hT : Tz w) (hd : -9223372036854775808 ≤ d ∧ d ≤ 9223372036854775807) (hg : putR d = (c, 0)) :
    Calls Tryd.prog 23 #[.int .i64 d, .string s] w fun e w' => e = .returned (.bool true) ∧ Below w.heap.size w w' := by
  subst hs
  have H := Lib.hid (address_Put d w hT hd)
  rw [hg] at H
  clear hg
  have hbb : (c == c) = true := beq_self_eq_true c
  go_enter Tryd.func23, Tryd.ntmps23
  go_wp2_with (go_at_call 15; refine H.out.mono ?_; rintro e w1 ⟨rfl, hb⟩)
  go_ret
  exact ⟨rfl, hb⟩
set_option maxHeartbeats 1000000 in
theorem law04_awake (w : World) (hT : Tz w) : Calls Tryd.prog 9 #[] w fun e w' => e = .returned (.bool true) ∧ Below w.heap.size w w' := by
  have HT := Lib.hid hT; clear hT
  have sl1 : ∀ (W : World) (x : UInt8), Sl (W.alloc (.cells #[byteV x] 5)) (some ⟨W.heap.size, 0, none⟩) ([x].map byteV) := fun W x => Blk.sl (Blk.new W 5 _) 0
  have sl2 : ∀ (W : World) (x y : UInt8), Sl (W.alloc (.cells #[byteV x, byteV y] 5)) (some ⟨W.heap.size, 0, none⟩) ([x, y].map byteV) := fun W x y => Blk.sl (Blk.new W 5 _) 0
  have hal : ∀ (W : World) (o : Obj), Below w.heap.size w W → Below w.heap.size w (W.alloc o) := fun W o h => h.alloc h.size o
  have H1 := Lib.hid sl1; have H2 := Lib.hid sl2; have Hal := Lib.hid hal; clear sl1 sl2 hal
  have B0 := Lib.hid (Below.refl w.heap.size w)
  go_enter Tryd.func9, Tryd.ntmps9
  go_wp2_with fail
  refine (law04_gets _ _ _ [96] _ _ _ _ _ (HT.out.below (Hal.out _ _ B0.out)) (H1.out _ _) rfl (by decide) (by decide) (by kernel_rfl)).mono ?_
  rintro e w1 ⟨rfl, hb⟩
  have B1 := Lib.hid ((Hal.out _ _ B0.out).trans (hb.mono (Hal.out _ _ B0.out).size)); clear hb B0
  go_wp2_with fail
  refine (law04_gets _ _ _ [0, 1] _ _ _ _ _ (HT.out.below (Hal.out _ _ B1.out)) (H2.out _ _ _) rfl (by decide) (by decide) (by kernel_rfl)).mono ?_
  rintro e w2 ⟨rfl, hb⟩
  have B2 := Lib.hid ((Hal.out _ _ B1.out).trans (hb.mono (Hal.out _ _ B1.out).size)); clear hb B1
  go_wp2_with fail
  refine (law04_gets _ _ _ [2] _ _ _ _ _ (HT.out.below (Hal.out _ _ B2.out)) (H1.out _ _) rfl (by decide) (by decide) (by kernel_rfl)).mono ?_
  rintro e w3 ⟨rfl, hb⟩
  have B3 := Lib.hid ((Hal.out _ _ B2.out).trans (hb.mono (Hal.out _ _ B2.out).size)); clear hb B2
  go_wp2_with fail
  refine (law04_puts _ (codesL.getD 33 []) _ rfl _ (HT.out.below B3.out) (by decide) rfl).mono ?_
  rintro e w4 ⟨rfl, hb⟩
  go_wp2_with fail
  go_ret
  exact ⟨rfl, B3.out.trans (hb.mono B3.out.size)⟩
end Go.Proofs.YtedjplbiibflmaaDoor
