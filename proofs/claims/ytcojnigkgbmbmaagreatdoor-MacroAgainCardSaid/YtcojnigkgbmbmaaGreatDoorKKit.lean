/- The verifier's kit: Pick, LentBytes, KeptBytes; the reference of layer 1: bit, Count, Read. -/
import Derived.Test.YtcojnigkgbmbmaaGreatDoorK01
import Derived.Test.YtcojnigkgbmbmaaGreatDoorK10
import Derived.Test.YtcojnigkgbmbmaaGreatDoorK05
import Derived.Deep.LoopGhost
namespace Go.Proofs.YtcojnigkgbmbmaaGreatDoor
open Go Go.RowKit
theorem pick_mod (x n : Int) (hn : 0 < n) : x % n = if x.tmod n < 0 then x.tmod n + n else x.tmod n := by
  have h1 := Int.emod_nonneg x (by omega : n ≠ 0)
  have h2 := Int.emod_lt_of_pos x hn
  rcases Int.lt_or_le x 0 with hx | hx
  · rw [Int.tmod_eq_emod]
    by_cases hd : n ∣ x
    · have : x % n = 0 := Int.emod_eq_zero_of_dvd hd
      simp [hd, this]
    · have hpos : x % n ≠ 0 := fun h => hd (Int.dvd_of_emod_eq_zero h)
      have : ¬ (0 ≤ x ∨ n ∣ x) := by omega
      rw [if_neg this]
      have hna : (n.natAbs : Int) = n := by omega
      rw [hna, if_pos (by omega)]
      omega
  · rw [Int.tmod_eq_emod_of_nonneg hx, if_neg (by omega)]
set_option maxHeartbeats 400000 in
theorem kit_Pick (x n : Int) (w : World) (hn0 : 0 < n) (hn : n ≤ 4611686018427387904) :
   Calls Tryz.prog 26 #[.int .i64 x, .int .i64 n] w fun e w' => e = .returned (.int .i64 (x % n)) ∧ w = w' := by
  have h : ¬ n ≤ 0 := by omega
  have h2 : -n < x.tmod n ∧ x.tmod n < n := by
    have := Int.tmod_lt_of_pos x hn0
    have := Int.lt_tmod_of_pos x hn0
    omega
  have Hp := Lib.hid (pick_mod x n hn0)
  by_cases hq : x.tmod n < 0
  · go_enter Tryz.func26, Tryz.ntmps26
    go_wp2
    go_ret
    exact ⟨ret_int (by rw [Hp.out, if_pos hq]), rfl⟩
  · go_enter Tryz.func26, Tryz.ntmps26
    go_wp2
    go_ret
    exact ⟨ret_int (by rw [Hp.out, if_neg (by omega)]), rfl⟩
theorem ref01_Count (A : Option Addr) (n c : Nat) (w : World) (hsz : n ≤ 2 ^ 47) :
   Calls Tryz.prog 36 #[.slice A n c] w fun e w' => e = .returned (.int .i64 (8 * n)) ∧ w = w' := by
  go_enter Tryz.func36, Tryz.ntmps36
  go_wp2
  go_ret
  exact ⟨rfl, rfl⟩
theorem ref01_bit (A : Option Addr) (n c : Nat) (l : List UInt8) (i : Int) (w : World) (hr : Sl w A (l.map byteV)) (hn : l.length = n) (h0 : 0 ≤ i) (h1 : i < 8 * n) (hsz : n ≤ 2 ^ 47) :
   Calls Tryz.prog 79 #[.slice A n c, .int .i64 i] w fun e w' => e = .returned (.int .i64 (bitN l i.toNat)) ∧ w = w' := by
  obtain ⟨k, rfl⟩ := Int.eq_ofNat_of_zero_le h0
  subst hn
  obtain ⟨ad, rfl, _, hc⟩ := hr.byte (k / 8) (by omega)
  have hk : (0:Int) ≤ 7 - ↑k % 8 := by omega
  have hb : l[k / 8].toNat < 256 := UInt8.toNat_lt _
  have hb2 : l[k / 8].toNat / 2 ^ (7 - k % 8) < 256 := Nat.lt_of_le_of_lt (Nat.div_le_self _ _) hb
  have hlt : k / 8 < l.length := by omega
  have hq : ((l[k / 8].toNat : Int) / 2 ^ (7 - k % 8)) = ((l[k / 8].toNat / 2 ^ (7 - k % 8) : Nat) : Int) := by simp
  have hfin : ((l[k / 8].toNat : Int) / 2 ^ (7 - k % 8)) % 2 = ((bitN l k : Nat) : Int) := by
    rw [hq]; simp [bitN, List.getD, hlt]
  have hz : (0 : Int) ≤ (↑l[k / 8].toNat : Int) / 2 ^ (7 - k % 8) ∧ (↑l[k / 8].toNat : Int) / 2 ^ (7 - k % 8) < 256 := by
    rw [hq]; generalize l[k / 8].toNat / 2 ^ (7 - k % 8) = q at hb2; omega
  clear hq
  have Hf := Lib.hid hfin
  clear hfin hb hb2
  go_enter Tryz.func79, Tryz.ntmps79
  go_wp2
  go_ret
  rw [Int.toNat_natCast]
  exact ⟨ret_int Hf.out, rfl⟩
set_option maxHeartbeats 400000 in
theorem ref01_Read (A : Option Addr) (n c : Nat) (l : List UInt8) (i m : Int) (w : World) (hr : Sl w A (l.map byteV)) (hn : l.length = n) (h0 : 0 ≤ i) (hm : 0 ≤ m) (hm2 : m ≤ 32) (h1 : i + m ≤ 8 * n) (hsz : n ≤ 2 ^ 47) :
   Calls Tryz.prog 39 #[.slice A n c, .int .i64 i, .int .i64 m] w fun e w' => e = .returned (.tuple #[.int .i64 (numN l i.toNat m.toNat), .int .i64 0]) ∧ w = w' := by
  obtain ⟨k, rfl⟩ := Int.eq_ofNat_of_zero_le h0
  obtain ⟨m, rfl⟩ := Int.eq_ofNat_of_zero_le hm
  have e1 : decide ((k:Int) < 0) = false := by simp
  have e2 : decide ((m:Int) < 0) = false := by simp
  have e3 : ¬ (32 : Int) < m := by omega
  have e4 : ¬ (8 * (n : Int)) < k := by omega
  have e5 : ¬ (8 * (n : Int)) - k < m := by omega
  go_enter Tryz.func39, Tryz.ntmps39
  go_wp2_with (go_at_call 36; refine (ref01_Count _ _ _ _ hsz).mono ?_; rintro e w' ⟨rfl, rfl⟩)
  go_loopg [8, 9] m (fun g x j => fun wr => ∃ t : Nat, t + g = m ∧ j = .int .i64 (t : Int) ∧ x = .int .i64 (numN l k t) ∧ w = wr)
  case atStart => exact ⟨0, by omega, rfl, rfl, rfl⟩
  case round =>
    obtain ⟨t, ht, rfl, rfl, rfl⟩ := hrel
    cases gk with
    | succ g =>
      have hb := bitN_lt l (k + t)
      have hx := numN_lt l k t
      have hx2 : numN l k t < 2 ^ 32 := Nat.lt_of_lt_of_le hx (Nat.pow_le_pow_right (by decide) (by omega))
      have hp : (t : Int) < (m : Int) := by omega
      clear hx
      have hz : (0:Int) ≤ ((k+t : Nat) : Int) := by omega
      go_wp2_with (go_at_call 79; refine (ref01_bit _ _ _ l _ _ hr hn (by omega) (by omega) hsz).mono ?_; rintro e w' ⟨rfl, rfl⟩)
      go_roundg g
      case measure => omega
      case rel => exact ⟨t + 1, by omega, rfl, by simp [numN], rfl⟩
    | zero =>
      have hp : ¬ (t : Int) < (m : Int) := by omega
      obtain rfl : t = m := by omega
      go_wp2
      go_ret2
      exact ⟨by simp, rfl⟩
set_option maxHeartbeats 400000 in
theorem kit_LentBytes (A : Option Addr) (n c : Nat) (l : List UInt8) (w : World) (hr : Sl w A (l.map byteV)) (hn : l.length = n) (hsz : n ≤ 2 ^ 40) :
   Calls Tryz.prog 10 #[.slice A n c] w fun e w' => ∃ B d, e = .returned (.slice B n d) ∧ Sl w' B ((l ++ [201, 202, 203, 204]).map byteV) ∧ n + 4 ≤ d ∧ d ≤ 9223372036854775807 ∧ Below w.heap.size w w' := by
  have Hn := Lib.hid hn
  clear hn
  have tok : True := trivial
  go_enter Tryz.func10, Tryz.ntmps10
  have ho0 : (w.alloc (.cells #[] 5)).ownsRow w.heap.size 5 1 (.slice (some ⟨w.heap.size, 0, none⟩) 0 0) 0 [] := World.ownsRow_lit w #[] 0 (Nat.le_refl _) (by decide) rfl
  have hr0 := hr.alloc (.cells #[] 5)
  have Ho0 := Lib.hid ho0; have Hr0 := Lib.hid hr0; clear ho0 hr0
  go_wp2_with (first
    | (at_builtin; have _t := tok; refine wpList_app etByte rfl rfl rfl Ho0.out rfl (by simp [Hn.out]) Hr0.out (byteV_one _) (by omega) (by simp) ?_; clear tok; intro v1 w1 ho1 hg1 _; rw [Nat.zero_add, List.nil_append] at ho1; have Ho1 := Lib.hid ho1; clear ho1)
    | (at_builtin; refine wpList_app etByte rfl rfl rfl (Ho1.out.alloc _) rfl (m := 4) (news := [201, 202, 203, 204].map byteV) rfl (Blk.sl (Blk.new w1 5 _) 0) (byteV_one _) (by omega) (by have := hg1.size; simp at this ⊢; omega) ?_; intro v2 w2 ho2 hg2 _; obtain ⟨g, cap, rfl, hcap, hcap2, hbg⟩ := own_pos ho2 (by omega); have Ho2 := Lib.hid ho2; clear ho2; unfold maxLen at hcap2))
  go_ret
  refine ⟨some ⟨g, 0, none⟩, cap, rfl, ?_, hcap, hcap2, ?_⟩
  · rw [List.map_append]; exact own_sl' Ho2.out
  · have hb1 := below_app ((Below.refl w.heap.size w).alloc (Nat.le_refl _) (.cells #[] 5)) Ho0.out hg1 (by simp) (Nat.le_refl _)
    exact below_app (hb1.alloc hb1.size _) (Ho1.out.alloc _) hg2 (by have := hb1.size; simp; omega) (Nat.le_refl _)
set_option maxHeartbeats 1000000 in
theorem kit_KeptBytes (A B : Option Addr) (n c d : Nat) (l : List UInt8) (w : World) (hA : Sl w A ((l ++ [201, 202, 203, 204]).map byteV)) (hB : Sl w B (l.map byteV)) (hn : l.length = n) (hc : n + 4 ≤ c) (hc2 : c ≤ 9223372036854775807) :
   Calls Tryz.prog 14 #[.slice A n c, .slice B n d] w fun e w' => e = .returned (.bool true) ∧ Below w.heap.size w w' := by
  have Hn := Lib.hid hn
  clear hn
  go_enter Tryz.func14, Tryz.ntmps14
  go_wp2_with fail
  have hcv : ∀ (W : World) (A : Option Addr) (l : List UInt8) (n c : Nat), Sl W A (l.map byteV) → l.length = n → (convert 22 9 (.slice A n c)).run Tryz.prog W = .ok (.string (bs l)) W := fun W A l n c h hn => run_bytes_str (P := Tryz.prog) 22 9 5 (by kernel_rfl) (by kernel_rfl) (by kernel_rfl) h n c hn
  have Hcv := Lib.hid hcv; clear hcv
  have hbb : (l == l) = true := beq_self_eq_true l
  have hw4 : IntKind.i64.wrap ((n : Int) + 4) = (n : Int) + 4 := IntWalk.i64_in _ (by omega)
  have hge : decide ((n : Int) + 4 ≤ (c : Int)) = true := by simp; omega
  have h04 : (0 : Int) ≤ (n : Int) + 4 := by omega
  have hc4 : (n : Int) + 4 ≤ (c : Int) := by omega
  have hcn : ¬ c = n := by omega
  have hn4 : ((n : Int) + 4).toNat = n + 4 := by omega
  refine wp_region_plan2 (fun w' => Sl w' A ((l ++ [201, 202, 203, 204]).map byteV) ∧ Sl w' B (l.map byteV)) 31 [(0, true), (1, true), (2, true), (3, true), (4, true), (5, true), (6, true), (7, true), (8, true), (9, true), (10, true), (11, true), (12, true), (13, true), (14, true), (15, true), (16, true), (17, true), (18, true), (19, true), (20, true), (21, true), (22, true), (23, true), (24, true), (25, true), (26, true), (27, true), (28, true), (29, false), (30, false)] (by kernel_rfl) (by kernel_rfl) (fun _ _ d _ _ h => by cases d <;> exact h) (by decide) (by simp only [List.map_cons, List.map_nil, Array.getD_eq_getD_getElem?, List.getElem?_toArray, List.getElem?_cons_zero, List.getElem?_cons_succ, Option.getD_some]; rfl) (by simp only [List.map_cons, List.map_nil]; rfl) (⟨hA.drew, hB.drew⟩) (fun PE hPE => ?_)
  refine plan_take (v := ?_) rfl (by rfl) ?_ ?_
  rotate_left
  · intro _ hSw; (try dsimp only at hSw); have h1 := Hcv.out _ A l n c (by have := hSw.1.take l.length; rw [List.map_append, List.take_append_of_le_length (by simp), List.take_of_length_le (by simp)] at this; exact this) Hn.out; have h2 := Hcv.out _ B l n d hSw.2 Hn.out; have h3 := Hcv.out _ (A.map (·.add n)) [201, 202, 203, 204] 4 (c - n) (by have := hSw.1.drop n; rw [List.map_append, List.drop_left' (by simp [Hn.out])] at this; exact this) rfl; go_simp; (try with_reducible rfl)
  simp only [List.setIfInBounds_toArray, List.set_cons_zero, List.set_cons_succ]
  refine plan_take (v := ?_) rfl (by rfl) ?_ ?_
  rotate_left
  · intro _ hSw; (try dsimp only at hSw); have h1 := Hcv.out _ A l n c (by have := hSw.1.take l.length; rw [List.map_append, List.take_append_of_le_length (by simp), List.take_of_length_le (by simp)] at this; exact this) Hn.out; have h2 := Hcv.out _ B l n d hSw.2 Hn.out; have h3 := Hcv.out _ (A.map (·.add n)) [201, 202, 203, 204] 4 (c - n) (by have := hSw.1.drop n; rw [List.map_append, List.drop_left' (by simp [Hn.out])] at this; exact this) rfl; go_simp; (try with_reducible rfl)
  simp only [List.setIfInBounds_toArray, List.set_cons_zero, List.set_cons_succ]
  refine plan_take (v := ?_) rfl (by rfl) ?_ ?_
  rotate_left
  · intro _ hSw; (try dsimp only at hSw); have h1 := Hcv.out _ A l n c (by have := hSw.1.take l.length; rw [List.map_append, List.take_append_of_le_length (by simp), List.take_of_length_le (by simp)] at this; exact this) Hn.out; have h2 := Hcv.out _ B l n d hSw.2 Hn.out; have h3 := Hcv.out _ (A.map (·.add n)) [201, 202, 203, 204] 4 (c - n) (by have := hSw.1.drop n; rw [List.map_append, List.drop_left' (by simp [Hn.out])] at this; exact this) rfl; go_simp; (try with_reducible rfl)
  simp only [List.setIfInBounds_toArray, List.set_cons_zero, List.set_cons_succ]
  refine plan_take (v := ?_) rfl (by rfl) ?_ ?_
  rotate_left
  · intro _ hSw; (try dsimp only at hSw); have h1 := Hcv.out _ A l n c (by have := hSw.1.take l.length; rw [List.map_append, List.take_append_of_le_length (by simp), List.take_of_length_le (by simp)] at this; exact this) Hn.out; have h2 := Hcv.out _ B l n d hSw.2 Hn.out; have h3 := Hcv.out _ (A.map (·.add n)) [201, 202, 203, 204] 4 (c - n) (by have := hSw.1.drop n; rw [List.map_append, List.drop_left' (by simp [Hn.out])] at this; exact this) rfl; go_simp; (try with_reducible rfl)
  simp only [List.setIfInBounds_toArray, List.set_cons_zero, List.set_cons_succ]
  refine plan_take (v := ?_) rfl (by rfl) ?_ ?_
  rotate_left
  · intro _ hSw; (try dsimp only at hSw); have h1 := Hcv.out _ A l n c (by have := hSw.1.take l.length; rw [List.map_append, List.take_append_of_le_length (by simp), List.take_of_length_le (by simp)] at this; exact this) Hn.out; have h2 := Hcv.out _ B l n d hSw.2 Hn.out; have h3 := Hcv.out _ (A.map (·.add n)) [201, 202, 203, 204] 4 (c - n) (by have := hSw.1.drop n; rw [List.map_append, List.drop_left' (by simp [Hn.out])] at this; exact this) rfl; go_simp; (try with_reducible rfl)
  simp only [List.setIfInBounds_toArray, List.set_cons_zero, List.set_cons_succ]
  refine plan_take (v := ?_) rfl (by rfl) ?_ ?_
  rotate_left
  · intro _ hSw; (try dsimp only at hSw); have h1 := Hcv.out _ A l n c (by have := hSw.1.take l.length; rw [List.map_append, List.take_append_of_le_length (by simp), List.take_of_length_le (by simp)] at this; exact this) Hn.out; have h2 := Hcv.out _ B l n d hSw.2 Hn.out; have h3 := Hcv.out _ (A.map (·.add n)) [201, 202, 203, 204] 4 (c - n) (by have := hSw.1.drop n; rw [List.map_append, List.drop_left' (by simp [Hn.out])] at this; exact this) rfl; go_simp; (try with_reducible rfl)
  simp only [List.setIfInBounds_toArray, List.set_cons_zero, List.set_cons_succ]
  refine plan_take (v := ?_) rfl (by rfl) ?_ ?_
  rotate_left
  · intro _ hSw; (try dsimp only at hSw); have h1 := Hcv.out _ A l n c (by have := hSw.1.take l.length; rw [List.map_append, List.take_append_of_le_length (by simp), List.take_of_length_le (by simp)] at this; exact this) Hn.out; have h2 := Hcv.out _ B l n d hSw.2 Hn.out; have h3 := Hcv.out _ (A.map (·.add n)) [201, 202, 203, 204] 4 (c - n) (by have := hSw.1.drop n; rw [List.map_append, List.drop_left' (by simp [Hn.out])] at this; exact this) rfl; go_simp; (try with_reducible rfl)
  simp only [List.setIfInBounds_toArray, List.set_cons_zero, List.set_cons_succ]
  refine plan_take (v := ?_) rfl (by rfl) ?_ ?_
  rotate_left
  · intro _ hSw; (try dsimp only at hSw); have h1 := Hcv.out _ A l n c (by have := hSw.1.take l.length; rw [List.map_append, List.take_append_of_le_length (by simp), List.take_of_length_le (by simp)] at this; exact this) Hn.out; have h2 := Hcv.out _ B l n d hSw.2 Hn.out; have h3 := Hcv.out _ (A.map (·.add n)) [201, 202, 203, 204] 4 (c - n) (by have := hSw.1.drop n; rw [List.map_append, List.drop_left' (by simp [Hn.out])] at this; exact this) rfl; go_simp; (try with_reducible rfl)
  simp only [List.setIfInBounds_toArray, List.set_cons_zero, List.set_cons_succ]
  refine plan_take (v := ?_) rfl (by rfl) ?_ ?_
  rotate_left
  · intro _ hSw; (try dsimp only at hSw); have h1 := Hcv.out _ A l n c (by have := hSw.1.take l.length; rw [List.map_append, List.take_append_of_le_length (by simp), List.take_of_length_le (by simp)] at this; exact this) Hn.out; have h2 := Hcv.out _ B l n d hSw.2 Hn.out; have h3 := Hcv.out _ (A.map (·.add n)) [201, 202, 203, 204] 4 (c - n) (by have := hSw.1.drop n; rw [List.map_append, List.drop_left' (by simp [Hn.out])] at this; exact this) rfl; go_simp; (try with_reducible rfl)
  simp only [List.setIfInBounds_toArray, List.set_cons_zero, List.set_cons_succ]
  refine plan_take (v := ?_) rfl (by rfl) ?_ ?_
  rotate_left
  · intro _ hSw; (try dsimp only at hSw); have h1 := Hcv.out _ A l n c (by have := hSw.1.take l.length; rw [List.map_append, List.take_append_of_le_length (by simp), List.take_of_length_le (by simp)] at this; exact this) Hn.out; have h2 := Hcv.out _ B l n d hSw.2 Hn.out; have h3 := Hcv.out _ (A.map (·.add n)) [201, 202, 203, 204] 4 (c - n) (by have := hSw.1.drop n; rw [List.map_append, List.drop_left' (by simp [Hn.out])] at this; exact this) rfl; go_simp; (try with_reducible rfl)
  simp only [List.setIfInBounds_toArray, List.set_cons_zero, List.set_cons_succ]
  refine plan_take (v := ?_) rfl (by rfl) ?_ ?_
  rotate_left
  · intro _ hSw; (try dsimp only at hSw); have h1 := Hcv.out _ A l n c (by have := hSw.1.take l.length; rw [List.map_append, List.take_append_of_le_length (by simp), List.take_of_length_le (by simp)] at this; exact this) Hn.out; have h2 := Hcv.out _ B l n d hSw.2 Hn.out; have h3 := Hcv.out _ (A.map (·.add n)) [201, 202, 203, 204] 4 (c - n) (by have := hSw.1.drop n; rw [List.map_append, List.drop_left' (by simp [Hn.out])] at this; exact this) rfl; go_simp; (try with_reducible rfl)
  simp only [List.setIfInBounds_toArray, List.set_cons_zero, List.set_cons_succ]
  refine plan_take (v := ?_) rfl (by rfl) ?_ ?_
  rotate_left
  · intro _ hSw; (try dsimp only at hSw); have h1 := Hcv.out _ A l n c (by have := hSw.1.take l.length; rw [List.map_append, List.take_append_of_le_length (by simp), List.take_of_length_le (by simp)] at this; exact this) Hn.out; have h2 := Hcv.out _ B l n d hSw.2 Hn.out; have h3 := Hcv.out _ (A.map (·.add n)) [201, 202, 203, 204] 4 (c - n) (by have := hSw.1.drop n; rw [List.map_append, List.drop_left' (by simp [Hn.out])] at this; exact this) rfl; go_simp; (try with_reducible rfl)
  simp only [List.setIfInBounds_toArray, List.set_cons_zero, List.set_cons_succ]
  refine plan_take (v := ?_) rfl (by rfl) ?_ ?_
  rotate_left
  · intro _ hSw; (try dsimp only at hSw); have h1 := Hcv.out _ A l n c (by have := hSw.1.take l.length; rw [List.map_append, List.take_append_of_le_length (by simp), List.take_of_length_le (by simp)] at this; exact this) Hn.out; have h2 := Hcv.out _ B l n d hSw.2 Hn.out; have h3 := Hcv.out _ (A.map (·.add n)) [201, 202, 203, 204] 4 (c - n) (by have := hSw.1.drop n; rw [List.map_append, List.drop_left' (by simp [Hn.out])] at this; exact this) rfl; go_simp; (try with_reducible rfl)
  simp only [List.setIfInBounds_toArray, List.set_cons_zero, List.set_cons_succ]
  refine plan_take (v := ?_) rfl (by rfl) ?_ ?_
  rotate_left
  · intro _ hSw; (try dsimp only at hSw); have h1 := Hcv.out _ A l n c (by have := hSw.1.take l.length; rw [List.map_append, List.take_append_of_le_length (by simp), List.take_of_length_le (by simp)] at this; exact this) Hn.out; have h2 := Hcv.out _ B l n d hSw.2 Hn.out; have h3 := Hcv.out _ (A.map (·.add n)) [201, 202, 203, 204] 4 (c - n) (by have := hSw.1.drop n; rw [List.map_append, List.drop_left' (by simp [Hn.out])] at this; exact this) rfl; go_simp; (try with_reducible rfl)
  simp only [List.setIfInBounds_toArray, List.set_cons_zero, List.set_cons_succ]
  refine plan_take (v := ?_) rfl (by rfl) ?_ ?_
  rotate_left
  · intro _ hSw; (try dsimp only at hSw); have h1 := Hcv.out _ A l n c (by have := hSw.1.take l.length; rw [List.map_append, List.take_append_of_le_length (by simp), List.take_of_length_le (by simp)] at this; exact this) Hn.out; have h2 := Hcv.out _ B l n d hSw.2 Hn.out; have h3 := Hcv.out _ (A.map (·.add n)) [201, 202, 203, 204] 4 (c - n) (by have := hSw.1.drop n; rw [List.map_append, List.drop_left' (by simp [Hn.out])] at this; exact this) rfl; go_simp; (try with_reducible rfl)
  simp only [List.setIfInBounds_toArray, List.set_cons_zero, List.set_cons_succ]
  refine plan_take (v := ?_) rfl (by rfl) ?_ ?_
  rotate_left
  · intro _ hSw; (try dsimp only at hSw); have h1 := Hcv.out _ A l n c (by have := hSw.1.take l.length; rw [List.map_append, List.take_append_of_le_length (by simp), List.take_of_length_le (by simp)] at this; exact this) Hn.out; have h2 := Hcv.out _ B l n d hSw.2 Hn.out; have h3 := Hcv.out _ (A.map (·.add n)) [201, 202, 203, 204] 4 (c - n) (by have := hSw.1.drop n; rw [List.map_append, List.drop_left' (by simp [Hn.out])] at this; exact this) rfl; go_simp; (try with_reducible rfl)
  simp only [List.setIfInBounds_toArray, List.set_cons_zero, List.set_cons_succ]
  refine plan_take (v := ?_) rfl (by rfl) ?_ ?_
  rotate_left
  · intro _ hSw; (try dsimp only at hSw); have h1 := Hcv.out _ A l n c (by have := hSw.1.take l.length; rw [List.map_append, List.take_append_of_le_length (by simp), List.take_of_length_le (by simp)] at this; exact this) Hn.out; have h2 := Hcv.out _ B l n d hSw.2 Hn.out; have h3 := Hcv.out _ (A.map (·.add n)) [201, 202, 203, 204] 4 (c - n) (by have := hSw.1.drop n; rw [List.map_append, List.drop_left' (by simp [Hn.out])] at this; exact this) rfl; go_simp; (try with_reducible rfl)
  simp only [List.setIfInBounds_toArray, List.set_cons_zero, List.set_cons_succ]
  refine plan_take (v := ?_) rfl (by rfl) ?_ ?_
  rotate_left
  · intro _ hSw; (try dsimp only at hSw); have h1 := Hcv.out _ A l n c (by have := hSw.1.take l.length; rw [List.map_append, List.take_append_of_le_length (by simp), List.take_of_length_le (by simp)] at this; exact this) Hn.out; have h2 := Hcv.out _ B l n d hSw.2 Hn.out; have h3 := Hcv.out _ (A.map (·.add n)) [201, 202, 203, 204] 4 (c - n) (by have := hSw.1.drop n; rw [List.map_append, List.drop_left' (by simp [Hn.out])] at this; exact this) rfl; go_simp; (try with_reducible rfl)
  simp only [List.setIfInBounds_toArray, List.set_cons_zero, List.set_cons_succ]
  refine plan_take (v := ?_) rfl (by rfl) ?_ ?_
  rotate_left
  · intro _ hSw; (try dsimp only at hSw); have h1 := Hcv.out _ A l n c (by have := hSw.1.take l.length; rw [List.map_append, List.take_append_of_le_length (by simp), List.take_of_length_le (by simp)] at this; exact this) Hn.out; have h2 := Hcv.out _ B l n d hSw.2 Hn.out; have h3 := Hcv.out _ (A.map (·.add n)) [201, 202, 203, 204] 4 (c - n) (by have := hSw.1.drop n; rw [List.map_append, List.drop_left' (by simp [Hn.out])] at this; exact this) rfl; go_simp; (try with_reducible rfl)
  simp only [List.setIfInBounds_toArray, List.set_cons_zero, List.set_cons_succ]
  refine plan_take (v := ?_) rfl (by rfl) ?_ ?_
  rotate_left
  · intro _ hSw; (try dsimp only at hSw); have h1 := Hcv.out _ A l n c (by have := hSw.1.take l.length; rw [List.map_append, List.take_append_of_le_length (by simp), List.take_of_length_le (by simp)] at this; exact this) Hn.out; have h2 := Hcv.out _ B l n d hSw.2 Hn.out; have h3 := Hcv.out _ (A.map (·.add n)) [201, 202, 203, 204] 4 (c - n) (by have := hSw.1.drop n; rw [List.map_append, List.drop_left' (by simp [Hn.out])] at this; exact this) rfl; go_simp; (try with_reducible rfl)
  simp only [List.setIfInBounds_toArray, List.set_cons_zero, List.set_cons_succ]
  refine plan_take (v := ?_) rfl (by rfl) ?_ ?_
  rotate_left
  · intro _ hSw; (try dsimp only at hSw); have h1 := Hcv.out _ A l n c (by have := hSw.1.take l.length; rw [List.map_append, List.take_append_of_le_length (by simp), List.take_of_length_le (by simp)] at this; exact this) Hn.out; have h2 := Hcv.out _ B l n d hSw.2 Hn.out; have h3 := Hcv.out _ (A.map (·.add n)) [201, 202, 203, 204] 4 (c - n) (by have := hSw.1.drop n; rw [List.map_append, List.drop_left' (by simp [Hn.out])] at this; exact this) rfl; go_simp; (try with_reducible rfl)
  simp only [List.setIfInBounds_toArray, List.set_cons_zero, List.set_cons_succ]
  refine plan_take (v := ?_) rfl (by rfl) ?_ ?_
  rotate_left
  · intro _ hSw; (try dsimp only at hSw); have h1 := Hcv.out _ A l n c (by have := hSw.1.take l.length; rw [List.map_append, List.take_append_of_le_length (by simp), List.take_of_length_le (by simp)] at this; exact this) Hn.out; have h2 := Hcv.out _ B l n d hSw.2 Hn.out; have h3 := Hcv.out _ (A.map (·.add n)) [201, 202, 203, 204] 4 (c - n) (by have := hSw.1.drop n; rw [List.map_append, List.drop_left' (by simp [Hn.out])] at this; exact this) rfl; go_simp; (try with_reducible rfl)
  simp only [List.setIfInBounds_toArray, List.set_cons_zero, List.set_cons_succ]
  refine plan_take (v := ?_) rfl (by rfl) ?_ ?_
  rotate_left
  · intro _ hSw; (try dsimp only at hSw); have h1 := Hcv.out _ A l n c (by have := hSw.1.take l.length; rw [List.map_append, List.take_append_of_le_length (by simp), List.take_of_length_le (by simp)] at this; exact this) Hn.out; have h2 := Hcv.out _ B l n d hSw.2 Hn.out; have h3 := Hcv.out _ (A.map (·.add n)) [201, 202, 203, 204] 4 (c - n) (by have := hSw.1.drop n; rw [List.map_append, List.drop_left' (by simp [Hn.out])] at this; exact this) rfl; go_simp; (try with_reducible rfl)
  simp only [List.setIfInBounds_toArray, List.set_cons_zero, List.set_cons_succ]
  refine plan_take (v := ?_) rfl (by rfl) ?_ ?_
  rotate_left
  · intro _ hSw; (try dsimp only at hSw); have h1 := Hcv.out _ A l n c (by have := hSw.1.take l.length; rw [List.map_append, List.take_append_of_le_length (by simp), List.take_of_length_le (by simp)] at this; exact this) Hn.out; have h2 := Hcv.out _ B l n d hSw.2 Hn.out; have h3 := Hcv.out _ (A.map (·.add n)) [201, 202, 203, 204] 4 (c - n) (by have := hSw.1.drop n; rw [List.map_append, List.drop_left' (by simp [Hn.out])] at this; exact this) rfl; go_simp; (try with_reducible rfl)
  simp only [List.setIfInBounds_toArray, List.set_cons_zero, List.set_cons_succ]
  refine plan_take (v := ?_) rfl (by rfl) ?_ ?_
  rotate_left
  · intro _ hSw; (try dsimp only at hSw); have h1 := Hcv.out _ A l n c (by have := hSw.1.take l.length; rw [List.map_append, List.take_append_of_le_length (by simp), List.take_of_length_le (by simp)] at this; exact this) Hn.out; have h2 := Hcv.out _ B l n d hSw.2 Hn.out; have h3 := Hcv.out _ (A.map (·.add n)) [201, 202, 203, 204] 4 (c - n) (by have := hSw.1.drop n; rw [List.map_append, List.drop_left' (by simp [Hn.out])] at this; exact this) rfl; go_simp; (try with_reducible rfl)
  simp only [List.setIfInBounds_toArray, List.set_cons_zero, List.set_cons_succ]
  refine plan_take (v := ?_) rfl (by rfl) ?_ ?_
  rotate_left
  · intro _ hSw; (try dsimp only at hSw); have h1 := Hcv.out _ A l n c (by have := hSw.1.take l.length; rw [List.map_append, List.take_append_of_le_length (by simp), List.take_of_length_le (by simp)] at this; exact this) Hn.out; have h2 := Hcv.out _ B l n d hSw.2 Hn.out; have h3 := Hcv.out _ (A.map (·.add n)) [201, 202, 203, 204] 4 (c - n) (by have := hSw.1.drop n; rw [List.map_append, List.drop_left' (by simp [Hn.out])] at this; exact this) rfl; go_simp; (try with_reducible rfl)
  simp only [List.setIfInBounds_toArray, List.set_cons_zero, List.set_cons_succ]
  refine plan_take (v := ?_) rfl (by rfl) ?_ ?_
  rotate_left
  · intro _ hSw; (try dsimp only at hSw); have h1 := Hcv.out _ A l n c (by have := hSw.1.take l.length; rw [List.map_append, List.take_append_of_le_length (by simp), List.take_of_length_le (by simp)] at this; exact this) Hn.out; have h2 := Hcv.out _ B l n d hSw.2 Hn.out; have h3 := Hcv.out _ (A.map (·.add n)) [201, 202, 203, 204] 4 (c - n) (by have := hSw.1.drop n; rw [List.map_append, List.drop_left' (by simp [Hn.out])] at this; exact this) rfl; go_simp; (try with_reducible rfl)
  simp only [List.setIfInBounds_toArray, List.set_cons_zero, List.set_cons_succ]
  refine plan_take (v := ?_) rfl (by rfl) ?_ ?_
  rotate_left
  · intro _ hSw; (try dsimp only at hSw); have h1 := Hcv.out _ A l n c (by have := hSw.1.take l.length; rw [List.map_append, List.take_append_of_le_length (by simp), List.take_of_length_le (by simp)] at this; exact this) Hn.out; have h2 := Hcv.out _ B l n d hSw.2 Hn.out; have h3 := Hcv.out _ (A.map (·.add n)) [201, 202, 203, 204] 4 (c - n) (by have := hSw.1.drop n; rw [List.map_append, List.drop_left' (by simp [Hn.out])] at this; exact this) rfl; go_simp; (try with_reducible rfl)
  simp only [List.setIfInBounds_toArray, List.set_cons_zero, List.set_cons_succ]
  refine plan_take (v := ?_) rfl (by rfl) ?_ ?_
  rotate_left
  · intro _ hSw; (try dsimp only at hSw); have h1 := Hcv.out _ A l n c (by have := hSw.1.take l.length; rw [List.map_append, List.take_append_of_le_length (by simp), List.take_of_length_le (by simp)] at this; exact this) Hn.out; have h2 := Hcv.out _ B l n d hSw.2 Hn.out; have h3 := Hcv.out _ (A.map (·.add n)) [201, 202, 203, 204] 4 (c - n) (by have := hSw.1.drop n; rw [List.map_append, List.drop_left' (by simp [Hn.out])] at this; exact this) rfl; go_simp; (try with_reducible rfl)
  simp only [List.setIfInBounds_toArray, List.set_cons_zero, List.set_cons_succ]
  refine plan_value (v := ?_) (w' := ?_) rfl (by rfl) ?_ ?_ ?_
  rotate_left 2
  · go_simp; (try (constructor <;> with_reducible rfl))
  · exact ⟨(hA.alloc _).drew, (hB.alloc _).drew⟩
  simp only [List.setIfInBounds_toArray, List.set_cons_zero, List.set_cons_succ]
  have h4 := Hcv.out _ _ [201, 202, 203, 204] 4 4 ((Blk.sl (Blk.new w 5 #[.int .u8 201, .int .u8 202, .int .u8 203, .int .u8 204]) 0).drew) rfl
  refine plan_value (v := ?_) (w' := ?_) rfl (by rfl) ?_ ?_ ?_
  rotate_left 2
  · go_simp; (try (constructor <;> with_reducible rfl))
  · exact ⟨(hA.alloc _).drew, (hB.alloc _).drew⟩
  simp only [List.setIfInBounds_toArray, List.set_cons_zero, List.set_cons_succ]
  (refine hPE _ _ ?_; simp only [List.drop_succ_cons, List.drop_zero]; clear hPE PE)
  go_wp2_with fail
  go_ret
  exact ⟨rfl, ((Below.refl _ _).alloc (Nat.le_refl _) _).drew⟩
end Go.Proofs.YtcojnigkgbmbmaaGreatDoor
