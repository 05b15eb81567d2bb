/- package bits: Pen.Code. -/
import Derived.Test.YtcojnigkgbmbmaaGreatDoorKPenP2
import Derived.Lib.OthersKept
namespace Go.Proofs.YtcojnigkgbmbmaaGreatDoor
open Go Go.RowKit
attribute [local go_sem] Oper.semAt_some
set_option maxRecDepth 100000 in
set_option maxHeartbeats 4000000 in
theorem pen_Code (w0 : World) (h : Nat) (L s : List UInt8) (hs : Bits s) (hl : L.length + s.length ≤ 16777216) (hh : w0.heap.size ≤ h) (w : World) (hp : PenW w0 h L w) :
    Calls Tryz.prog 28 #[.pointer (some ⟨h, 0, none⟩), .string (bs s)] w fun e w' => e = .returned (.int .i64 0) ∧ PenW w0 h (L ++ s) w' := by
  have HP := Lib.hid hp
  obtain ⟨v, hc⟩ := hp
  have C1 := Lib.hid (pen_none h v (L.length : Int) w hc.2.1.head)
  have C2 := Lib.hid (pen_full h v (L.length : Int) (s.length : Int) w hc.2.1.head (by omega) (by omega) (by omega))
  have HS := Lib.hid hs; have HL := Lib.hid hl
  clear hc hs hl
  go_enter Tryz.func28, Tryz.ntmps28
  go_wp2_with (go_at_call 66; refine C1.out.mono ?_; rintro e w2 ⟨rfl, rfl⟩)
  go_loopg [13] s.length (fun gk i => fun wr => ∃ (j : Nat), j + gk = s.length ∧ i = .int .i64 (j : Int) ∧ wr = w)
  case atStart => exact ⟨0, by omega, rfl, rfl⟩
  case round =>
    obtain ⟨j, hj, rfl, rfl⟩ := hrel
    cases gk with
    | succ g =>
      have hlt : ((j : Int) < (s.length : Int)) := by omega
      have hj0 : ¬ ((j : Int) < 0) := by omega
      have hjl : j < s.length := by omega
      have hbit := HS.out s[j] (List.getElem_mem hjl)
      have hw1 : IntKind.i64.wrap ((j : Int) + 1) = (j : Int) + 1 := by have := HL.out; rw [IntKind.wrap_i64]; omega
      have HJ := Lib.hid hj
      rcases hbit with hb | hb
      · have hbn : s[j].toNat = 48 := by rw [hb]; rfl
        clear hj
        go_wp2_with fail
        go_roundg g
        case measure => omega
        case rel => exact ⟨j + 1, by have := HJ.out; omega, rfl, rfl⟩
      · have hbn : s[j].toNat = 49 := by rw [hb]; rfl
        clear hj
        go_wp2_with fail
        go_roundg g
        case measure => omega
        case rel => exact ⟨j + 1, by have := HJ.out; omega, rfl, rfl⟩
    | zero =>
      have hlt : ¬ ((j : Int) < (s.length : Int)) := by omega
      clear hj
      go_wp2_with (go_at_call 67; refine C2.out.mono ?_; rintro e w2 ⟨rfl, rfl⟩)
      have hB0 : Below wr.heap.size wr (wr.iter (bs s) 0) := (Below.refl _ wr).alloc (Nat.le_refl _) (.stringIter (bs s) 0)
      have HP0 := Lib.hid (HP.out.below hB0)
      have hit : (wr.iter (bs s) 0).heap[wr.heap.size]? = some (.stringIter (bs s) 0) := World.alloc_heap_new wr (.stringIter (bs s) 0)
      have hhw : w0.heap.size ≤ wr.heap.size := by obtain ⟨v', hc'⟩ := HP.out; exact hc'.1.size
      have HHW := Lib.hid hhw
      have HIT := Lib.hid hit
      generalize wr.iter (bs s) 0 = W1 at HP0 HIT ⊢
      obtain ⟨k0, hk0⟩ : ∃ k0, wr.heap.size = k0 := ⟨_, rfl⟩
      rw [hk0] at HIT HHW ⊢
      clear hB0 hit hhw hk0 hlt HP C1 C2
      go_loopg [] s.length (fun gk => fun wr => ∃ (j : Nat), j + gk = s.length ∧ Hid (PenW w0 h (L ++ s.take j) wr) ∧ Hid (wr.heap[k0]? = some (.stringIter (bs s) j)))
      case atStart => exact ⟨0, by omega, Lib.hid (by rw [List.take_zero, List.append_nil]; exact HP0.out), HIT⟩
      case round =>
        obtain ⟨j, hj, HJ, HI⟩ := hrel
        cases gk with
        | zero =>
          have hjn : j = s.length := by omega
          have hnx := fun ty => Lib.run_next_end_at (P := Tryz.prog) wr k0 (bs s) j ty HI.out (by rw [bs_size]; omega)
          have HE := Lib.hid hjn
          clear hj hjn
          go_wp2_with fail
          go_ret
          refine ⟨rfl, ?_⟩
          have h1 := HJ.out
          rw [HE.out, List.take_length] at h1
          exact h1
        | succ g =>
          have hjl : j < s.length := by omega
          have hsz : j < (bs s).size := by rw [bs_size]; exact hjl
          have hbit := HS.out s[j] (List.getElem_mem hjl)
          have hgt : (bs s)[j]'hsz = s[j] := bs_get s j hsz
          have HJJ := Lib.hid hj
          obtain ⟨x, hx, hxs, hxc⟩ : ∃ x : Nat, x < 2 ∧ s[j] = (if x = 0 then 48 else 49) ∧ (((bs s)[j]'hsz).toNat : Int) = 48 + (x : Int) := by
            rcases hbit with hb | hb
            · exact ⟨0, by omega, hb, by rw [hgt, hb]; rfl⟩
            · exact ⟨1, by omega, hb, by rw [hgt, hb]; rfl⟩
          have hnx := fun ty => Lib.run_next_ascii_at (P := Tryz.prog) wr k0 (bs s) j ty HI.out hsz (by rw [hgt]; rcases hbit with hb | hb <;> rw [hb] <;> decide)
          rw [hxc] at hnx
          have hput : wr.iterAt k0 (bs s) (j + 1) = wr.putObj k0 (.stringIter (bs s) (j + 1)) := rfl
          have HIN := Lib.hid (Lib.iterAt_heap wr k0 (bs s) j (j + 1) HI.out)
          have HPN : Hid (PenW w0 h (L ++ s.take j) (wr.iterAt k0 (bs s) (j + 1))) := Lib.hid (by
            obtain ⟨v', hc'⟩ := HJ.out
            rw [hput]
            exact ⟨v', cons_put hc' HI.out rfl HHW.out⟩)
          have CW := Lib.hid (pen_write w0 h (L ++ s.take j) x hx (by rw [List.length_append, List.length_take]; have := HL.out; omega) hh _ HPN.out)
          have HT : Hid ((L ++ s.take j) ++ [if x = 0 then (48 : UInt8) else 49] = L ++ s.take (j + 1)) := Lib.hid (by
            rw [List.take_add_one, List.getElem?_eq_getElem hjl, List.append_assoc, ← hxs]; rfl)
          have hw32 : IntKind.i32.wrap (48 + (x : Int) - 48) = (x : Int) := by
            have : x = 0 ∨ x = 1 := by omega
            rcases this with rfl | rfl <;> rfl
          clear hj hjl hsz hbit hgt hxs hxc hput
          go_wp2_with (go_at_call 68; refine CW.out.mono ?_; rintro e w2 ⟨⟨u, rfl⟩, hpw, hkf⟩; have HPW := Lib.hid hpw; have HKF := Lib.hid hkf; clear hpw hkf)
          go_roundg g
          case measure => omega
          case rel => exact ⟨j + 1, by have := HJJ.out; omega, Lib.hid (by rw [← HT.out]; exact HPW.out), Lib.hid ((HKF.out 0).same _ _ (Nat.zero_le _) HIN.out rfl)⟩
end Go.Proofs.YtcojnigkgbmbmaaGreatDoor
