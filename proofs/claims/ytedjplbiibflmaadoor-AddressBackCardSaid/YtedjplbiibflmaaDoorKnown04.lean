/- AddressKnown answers true. -/
import Derived.Test.YtedjplbiibflmaaDoorLaw04
namespace Go.Proofs.YtedjplbiibflmaaDoor
open Go Go.RowKit
set_option maxRecDepth 100000 in
set_option maxHeartbeats 4000000 in
theorem law04_AddressKnown (w : World) (hT : Tz w) : Calls Tryd.prog 6 #[] w fun e w' => e = .returned (.bool true) ∧ Below w.heap.size w w' := by
  have HT := Lib.hid hT; clear hT
  have sl1 : ∀ (W : World) (x : UInt8), Sl (W.alloc (.cells #[byteV x] 5)) (some ⟨W.heap.size, 0, none⟩) ([x].map byteV) := fun W x => Blk.sl (Blk.new W 5 _) 0
  have sl2 : ∀ (W : World) (x y : UInt8), Sl (W.alloc (.cells #[byteV x, byteV y] 5)) (some ⟨W.heap.size, 0, none⟩) ([x, y].map byteV) := fun W x y => Blk.sl (Blk.new W 5 _) 0
  have hal : ∀ (W : World) (o : Obj), Below w.heap.size w W → Below w.heap.size w (W.alloc o) := fun W o h => h.alloc h.size o
  have H1 := Lib.hid sl1; have H2 := Lib.hid sl2; have Hal := Lib.hid hal; clear sl1 sl2 hal
  have B0 := Lib.hid (Below.refl w.heap.size w)
  go_enter Tryd.func6, Tryd.ntmps6
  go_wp2_with fail
  refine (address_Put 34 _ (HT.out.below B0.out) (by decide)).mono ?_
  rintro e w1 ⟨rfl, hb⟩
  have B1 := Lib.hid (B0.out.trans (hb.mono B0.out.size)); clear hb B0
  go_wp2_with fail
  refine (address_Put (-1) _ (HT.out.below B1.out) (by decide)).mono ?_
  rintro e w2 ⟨rfl, hb⟩
  have B2 := Lib.hid (B1.out.trans (hb.mono B1.out.size)); clear hb B1
  go_wp2_with fail
  refine (law04_gets _ _ _ [128] _ _ _ _ _ (HT.out.below (Hal.out _ _ B2.out)) (H1.out _ _) rfl (by decide) (by decide) (by kernel_rfl)).mono ?_
  rintro e w3 ⟨rfl, hb⟩
  have B3 := Lib.hid ((Hal.out _ _ B2.out).trans (hb.mono (Hal.out _ _ B2.out).size)); clear hb B2
  go_wp2_with fail
  refine (law04_gets _ _ _ [4] _ _ _ _ _ (HT.out.below (Hal.out _ _ B3.out)) (H1.out _ _) rfl (by decide) (by decide) (by kernel_rfl)).mono ?_
  rintro e w4 ⟨rfl, hb⟩
  have B4 := Lib.hid ((Hal.out _ _ B3.out).trans (hb.mono (Hal.out _ _ B3.out).size)); clear hb B3
  go_wp2_with fail
  refine (law04_gets _ _ _ [1, 224] _ _ _ _ _ (HT.out.below (Hal.out _ _ B4.out)) (H2.out _ _ _) rfl (by decide) (by decide) (by kernel_rfl)).mono ?_
  rintro e w5 ⟨rfl, hb⟩
  have B5 := Lib.hid ((Hal.out _ _ B4.out).trans (hb.mono (Hal.out _ _ B4.out).size)); clear hb B4
  go_wp2_with fail
  refine (law04_gets _ _ _ [0] _ _ _ _ _ (HT.out.below (Hal.out _ _ B5.out)) (H1.out _ _) rfl (by decide) (by decide) (by kernel_rfl)).mono ?_
  rintro e w6 ⟨rfl, hb⟩
  have B6 := Lib.hid ((Hal.out _ _ B5.out).trans (hb.mono (Hal.out _ _ B5.out).size)); clear hb B5
  go_wp2_with fail
  refine (law04_gets _ _ _ [0, 4] _ _ _ _ _ (HT.out.below (Hal.out _ _ B6.out)) (H2.out _ _ _) rfl (by decide) (by decide) (by kernel_rfl)).mono ?_
  rintro e w7 ⟨rfl, hb⟩
  have B7 := Lib.hid ((Hal.out _ _ B6.out).trans (hb.mono (Hal.out _ _ B6.out).size)); clear hb B6
  go_wp2_with fail
  refine (law04_puts _ (codesL.getD 1 []) _ rfl _ (HT.out.below B7.out) (by decide) rfl).mono ?_
  rintro e w8 ⟨rfl, hb⟩
  have B8 := Lib.hid (B7.out.trans (hb.mono B7.out.size)); clear hb B7
  go_wp2_with fail
  refine (law04_puts _ (codesL.getD 0 []) _ rfl _ (HT.out.below B8.out) (by decide) rfl).mono ?_
  rintro e w9 ⟨rfl, hb⟩
  have B9 := Lib.hid (B8.out.trans (hb.mono B8.out.size)); clear hb B8
  go_wp2_with fail
  refine (address_Next 0 1 _ (by decide) (by decide)).mono ?_
  rintro e w100 ⟨rfl, rfl⟩
  go_wp2_with fail
  refine (address_Next 30 3 _ (by decide) (by decide)).mono ?_
  rintro e w100 ⟨rfl, rfl⟩
  go_wp2_with fail
  refine (address_Next 30 4 _ (by decide) (by decide)).mono ?_
  rintro e w100 ⟨rfl, rfl⟩
  go_wp2_with fail
  refine (address_Next 3 0 _ (by decide) (by decide)).mono ?_
  rintro e w100 ⟨rfl, rfl⟩
  go_wp2_with fail
  refine (address_Row 12 _ (by decide)).mono ?_
  rintro e w100 ⟨rfl, rfl⟩
  go_wp2_with fail
  refine (address_Row 33 _ (by decide)).mono ?_
  rintro e w100 ⟨rfl, rfl⟩
  go_wp2_with fail
  refine (address_Row 0 _ (by decide)).mono ?_
  rintro e w100 ⟨rfl, rfl⟩
  go_wp2_with fail
  refine (address_Row 1 _ (by decide)).mono ?_
  rintro e w100 ⟨rfl, rfl⟩
  go_wp2_with fail
  refine (law04_awake _ (HT.out.below B9.out)).mono ?_
  rintro e w10 ⟨rfl, hb⟩
  have B10 := Lib.hid (B9.out.trans (hb.mono B9.out.size)); clear hb B9
  go_wp2_with fail
  go_ret
  exact ⟨rfl, B10.out⟩
end Go.Proofs.YtedjplbiibflmaaDoor
