/- Kit, RefT -/
import Derived.Test.YtcojnigkgbmbmaaGreatDoorR01
import Derived.Test.YtcojnigkgbmbmaaGreatDoorR09
import Derived.Test.YtcojnigkgbmbmaaGreatDoorR05
import Derived.Deep.LoopGhost
namespace Go.Proofs.YtcojnigkgbmbmaaGreatDoor
open Go Go.RowKit
theorem ref01_Count (A : Option Addr) (n c : Nat) (w : World) (hsz : n ≤ 2 ^ 47) :
   Calls Tryz.prog 36 #[.slice A n c] w fun e w' => e = .returned (.int .i64 (8 * n)) ∧ w = w' := by
  go_enter Tryz.func36, Tryz.ntmps36
  go_wp2
  go_ret
  exact ⟨rfl, rfl⟩
theorem ref01_bit (A : Option Addr) (n c : Nat) (l : List UInt8) (i : Int) (w : World) (hr : Sl w A (l.map byteV)) (hn : l.length = n) (h0 : 0 ≤ i) (h1 : i < 8 * n) (hsz : n ≤ 2 ^ 47) :
   Calls Tryz.prog 79 #[.slice A n c, .int .i64 i] w fun e w' => e = .returned (.int .i64 (bitN l i.toNat)) ∧ w = w' := by
  obtain ⟨k, rfl⟩ := Int.eq_ofNat_of_zero_le h0
  subst hn
  obtain ⟨ad, rfl, _, hc⟩ := hr.byte (k / 8) (by omega)
  have hk : (0:Int) ≤ 7 - ↑k % 8 := by omega
  have hb : l[k / 8].toNat < 256 := UInt8.toNat_lt _
  have hb2 : l[k / 8].toNat / 2 ^ (7 - k % 8) < 256 := Nat.lt_of_le_of_lt (Nat.div_le_self _ _) hb
  have hlt : k / 8 < l.length := by omega
  have hq : ((l[k / 8].toNat : Int) / 2 ^ (7 - k % 8)) = ((l[k / 8].toNat / 2 ^ (7 - k % 8) : Nat) : Int) := by simp
  have hfin : ((l[k / 8].toNat : Int) / 2 ^ (7 - k % 8)) % 2 = ((bitN l k : Nat) : Int) := by
    rw [hq]; simp [bitN, List.getD, hlt]
  have hz : (0 : Int) ≤ (↑l[k / 8].toNat : Int) / 2 ^ (7 - k % 8) ∧ (↑l[k / 8].toNat : Int) / 2 ^ (7 - k % 8) < 256 := by
    rw [hq]; generalize l[k / 8].toNat / 2 ^ (7 - k % 8) = q at hb2; omega
  clear hq
  have Hf := Lib.hid hfin
  clear hfin hb hb2
  go_enter Tryz.func79, Tryz.ntmps79
  go_wp2
  go_ret
  rw [Int.toNat_natCast]
  exact ⟨ret_int Hf.out, rfl⟩
set_option maxHeartbeats 400000 in
theorem ref01_Read (A : Option Addr) (n c : Nat) (l : List UInt8) (i m : Int) (w : World) (hr : Sl w A (l.map byteV)) (hn : l.length = n) (h0 : 0 ≤ i) (hm : 0 ≤ m) (hm2 : m ≤ 32) (h1 : i + m ≤ 8 * n) (hsz : n ≤ 2 ^ 47) :
   Calls Tryz.prog 39 #[.slice A n c, .int .i64 i, .int .i64 m] w fun e w' => e = .returned (.tuple #[.int .i64 (numN l i.toNat m.toNat), .int .i64 0]) ∧ w = w' := by
  obtain ⟨k, rfl⟩ := Int.eq_ofNat_of_zero_le h0
  obtain ⟨m, rfl⟩ := Int.eq_ofNat_of_zero_le hm
  have e1 : decide ((k:Int) < 0) = false := by simp
  have e2 : decide ((m:Int) < 0) = false := by simp
  have e3 : ¬ (32 : Int) < m := by omega
  have e4 : ¬ (8 * (n : Int)) < k := by omega
  have e5 : ¬ (8 * (n : Int)) - k < m := by omega
  go_enter Tryz.func39, Tryz.ntmps39
  go_wp2_with (go_at_call 36; refine (ref01_Count _ _ _ _ hsz).mono ?_; rintro e w' ⟨rfl, rfl⟩)
  go_loopg [8, 9] m (fun g x j => fun wr => ∃ t : Nat, t + g = m ∧ j = .int .i64 (t : Int) ∧ x = .int .i64 (numN l k t) ∧ w = wr)
  case atStart => exact ⟨0, by omega, rfl, rfl, rfl⟩
  case round =>
    obtain ⟨t, ht, rfl, rfl, rfl⟩ := hrel
    cases gk with
    | succ g =>
      have hb := bitN_lt l (k + t)
      have hx := numN_lt l k t
      have hx2 : numN l k t < 2 ^ 32 := Nat.lt_of_lt_of_le hx (Nat.pow_le_pow_right (by decide) (by omega))
      have hp : (t : Int) < (m : Int) := by omega
      clear hx
      have hz : (0:Int) ≤ ((k+t : Nat) : Int) := by omega
      go_wp2_with (go_at_call 79; refine (ref01_bit _ _ _ l _ _ hr hn (by omega) (by omega) hsz).mono ?_; rintro e w' ⟨rfl, rfl⟩)
      go_roundg g
      case measure => omega
      case rel => exact ⟨t + 1, by omega, rfl, by simp [numN], rfl⟩
    | zero =>
      have hp : ¬ (t : Int) < (m : Int) := by omega
      obtain rfl : t = m := by omega
      go_wp2
      go_ret2
      exact ⟨by simp, rfl⟩
set_option maxHeartbeats 400000 in
theorem kit_LentBytes (A : Option Addr) (n c : Nat) (l : List UInt8) (w : World) (hr : Sl w A (l.map byteV)) (hn : l.length = n) (hsz : n ≤ 2 ^ 40) :
   Calls Tryz.prog 10 #[.slice A n c] w fun e w' => ∃ B d, e = .returned (.slice B n d) ∧ Sl w' B ((l ++ [201, 202, 203, 204]).map byteV) ∧ n + 4 ≤ d ∧ d ≤ 9223372036854775807 ∧ Below w.heap.size w w' := by
  have Hn := Lib.hid hn
  clear hn
  have tok : True := trivial
  go_enter Tryz.func10, Tryz.ntmps10
  have ho0 : (w.alloc (.cells #[] 5)).ownsRow w.heap.size 5 1 (.slice (some ⟨w.heap.size, 0, none⟩) 0 0) 0 [] := World.ownsRow_lit w #[] 0 (Nat.le_refl _) (by decide) rfl
  have hr0 := hr.alloc (.cells #[] 5)
  have Ho0 := Lib.hid ho0; have Hr0 := Lib.hid hr0; clear ho0 hr0
  go_wp2_with (first
    | (at_builtin; have _t := tok; refine wpList_app etByte rfl rfl rfl Ho0.out rfl (by simp [Hn.out]) Hr0.out (byteV_one _) (by omega) (by simp) ?_; clear tok; intro v1 w1 ho1 hg1 _; rw [Nat.zero_add, List.nil_append] at ho1; have Ho1 := Lib.hid ho1; clear ho1)
    | (at_builtin; refine wpList_app etByte rfl rfl rfl (Ho1.out.alloc _) rfl (m := 4) (news := [201, 202, 203, 204].map byteV) rfl (Blk.sl (Blk.new w1 5 _) 0) (byteV_one _) (by omega) (by have := hg1.size; simp at this ⊢; omega) ?_; intro v2 w2 ho2 hg2 _; obtain ⟨g, cap, rfl, hcap, hcap2, hbg⟩ := own_pos ho2 (by omega); have Ho2 := Lib.hid ho2; clear ho2; unfold maxLen at hcap2))
  go_ret
  refine ⟨some ⟨g, 0, none⟩, cap, rfl, ?_, hcap, hcap2, ?_⟩
  · rw [List.map_append]; exact own_sl' Ho2.out
  · have hb1 := below_app ((Below.refl w.heap.size w).alloc (Nat.le_refl _) (.cells #[] 5)) Ho0.out hg1 (by simp) (Nat.le_refl _)
    exact below_app (hb1.alloc hb1.size _) (Ho1.out.alloc _) hg2 (by have := hb1.size; simp; omega) (Nat.le_refl _)
set_option maxHeartbeats 1000000 in
theorem kit_KeptBytes (A B : Option Addr) (n c d : Nat) (l : List UInt8) (w : World) (hA : Sl w A ((l ++ [201, 202, 203, 204]).map byteV)) (hB : Sl w B (l.map byteV)) (hn : l.length = n) (hc : n + 4 ≤ c) (hc2 : c ≤ 9223372036854775807) :
   Calls Tryz.prog 14 #[.slice A n c, .slice B n d] w fun e w' => e = .returned (.bool true) ∧ Below w.heap.size w w' := by
  have Hn := Lib.hid hn
  clear hn
  go_enter Tryz.func14, Tryz.ntmps14
  go_wp2_with fail
  have hcv : ∀ (W : World) (A : Option Addr) (l : List UInt8) (n c : Nat), Sl W A (l.map byteV) → l.length = n → (convert 22 9 (.slice A n c)).run Tryz.prog W = .ok (.string (bs l)) W := fun W A l n c h hn => run_bytes_str (P := Tryz.prog) 22 9 5 (by kernel_rfl) (by kernel_rfl) (by kernel_rfl) h n c hn
  have Hcv := Lib.hid hcv; clear hcv
  have hbb : (l == l) = true := beq_self_eq_true l
  have hw4 : IntKind.i64.wrap ((n : Int) + 4) = (n : Int) + 4 := IntWalk.i64_in _ (by omega)
  have hge : decide ((n : Int) + 4 ≤ (c : Int)) = true := by simp; omega
  have h04 : (0 : Int) ≤ (n : Int) + 4 := by omega
  have hc4 : (n : Int) + 4 ≤ (c : Int) := by omega
  have hcn : ¬ c = n := by omega
  have hn4 : ((n : Int) + 4).toNat = n + 4 := by omega
  refine wp_region_plan2 (fun w' => Sl w' A ((l ++ [201, 202, 203, 204]).map byteV) ∧ Sl w' B (l.map byteV)) 31 [(0, true), (1, true), (2, true), (3, true), (4, true), (5, true), (6, true), (7, true), (8, true), (9, true), (10, true), (11, true), (12, true), (13, true), (14, true), (15, true), (16, true), (17, true), (18, true), (19, true), (20, true), (21, true), (22, true), (23, true), (24, true), (25, true), (26, true), (27, true), (28, true), (29, false), (30, false)] (by kernel_rfl) (by kernel_rfl) (fun _ _ d _ _ h => by cases d <;> exact h) (by decide) (by simp only [List.map_cons, List.map_nil, Array.getD_eq_getD_getElem?, List.getElem?_toArray, List.getElem?_cons_zero, List.getElem?_cons_succ, Option.getD_some]; rfl) (by simp only [List.map_cons, List.map_nil]; rfl) (⟨hA.drew, hB.drew⟩) (fun PE hPE => ?_)
  iterate 29
    refine plan_take (v := ?_) rfl (by rfl) ?_ ?_
    rotate_left
    · intro _ hSw; (try dsimp only at hSw); have h1 := Hcv.out _ A l n c (by have := hSw.1.take l.length; rw [List.map_append, List.take_append_of_le_length (by simp), List.take_of_length_le (by simp)] at this; exact this) Hn.out; have h2 := Hcv.out _ B l n d hSw.2 Hn.out; have h3 := Hcv.out _ (A.map (·.add n)) [201, 202, 203, 204] 4 (c - n) (by have := hSw.1.drop n; rw [List.map_append, List.drop_left' (by simp [Hn.out])] at this; exact this) rfl; go_simp; (try with_reducible rfl)
    simp only [List.setIfInBounds_toArray, List.set_cons_zero, List.set_cons_succ]
  refine plan_value (v := ?_) (w' := ?_) rfl (by rfl) ?_ ?_ ?_
  rotate_left 2
  · go_simp; (try (constructor <;> with_reducible rfl))
  · exact ⟨(hA.alloc _).drew, (hB.alloc _).drew⟩
  simp only [List.setIfInBounds_toArray, List.set_cons_zero, List.set_cons_succ]
  have h4 := Hcv.out _ _ [201, 202, 203, 204] 4 4 ((Blk.sl (Blk.new w 5 #[.int .u8 201, .int .u8 202, .int .u8 203, .int .u8 204]) 0).drew) rfl
  refine plan_value (v := ?_) (w' := ?_) rfl (by rfl) ?_ ?_ ?_
  rotate_left 2
  · go_simp; (try (constructor <;> with_reducible rfl))
  · exact ⟨(hA.alloc _).drew, (hB.alloc _).drew⟩
  simp only [List.setIfInBounds_toArray, List.set_cons_zero, List.set_cons_succ]
  (refine hPE _ _ ?_; simp only [List.drop_succ_cons, List.drop_zero]; clear hPE PE)
  go_wp2_with fail
  go_ret
  exact ⟨rfl, ((Below.refl _ _).alloc (Nat.le_refl _) _).drew⟩
end Go.Proofs.YtcojnigkgbmbmaaGreatDoor
namespace Go.Proofs.YtcojnigkgbmbmaaGreatDoor
open Go Go.RowKit
theorem ref03_begins (s p : List UInt8) (w : World) : Calls Tryz.prog 118 #[.string (bs s), .string (bs p)] w fun e w' => e = .returned (.bool (p.isPrefixOf s)) ∧ w = w' := by
  by_cases h : p.length ≤ s.length
  · have e1 : decide ((p.length : Int) ≤ (s.length : Int)) = true := by simp; omega
    have Hp := Lib.hid (prefix_take p s h)
    go_enter Tryz.func118, Tryz.ntmps118
    go_wp2_with fail
    go_ret
    rw [← Hp.out]
    exact ⟨rfl, rfl⟩
  · have e1 : decide ((p.length : Int) ≤ (s.length : Int)) = false := by simp; omega
    rw [prefix_long p s h]
    go_enter Tryz.func118, Tryz.ntmps118
    go_wp2_with fail
    go_ret
    exact ⟨rfl, rfl⟩
set_option maxHeartbeats 1000000 in
theorem ref03_code (c : List UInt8) (hc : isCode c = true) (w : World) : Calls Tryz.prog 146 #[.string (bs c)] w fun e w' => e = .returned (.bool true) ∧ w = w' := by
  simp only [isCode, Bool.and_eq_true, decide_eq_true_eq] at hc
  obtain ⟨⟨h1, h2⟩, h3⟩ := hc
  have H1 := Lib.hid h1; clear h1
  go_enter Tryz.func146, Tryz.ntmps146
  go_wp2_with fail
  go_loopg [3] c.length (fun g i => fun wr => ∃ (j : Nat), j + g = c.length ∧ i = .int .i64 (j : Int) ∧ w = wr)
  case atStart => exact ⟨0, by omega, rfl, rfl⟩
  case round =>
    obtain ⟨j, hj, rfl, rfl⟩ := hrel
    cases gk with
    | zero =>
      obtain rfl : j = c.length := by omega
      have hlt : ¬ ((c.length : Int) < (c.length : Int)) := by omega
      have e1 : decide ((1 : Int) ≤ (c.length : Int)) = true := by simp; omega
      have e2 : decide ((c.length : Int) ≤ 24) = true := by simp; omega
      go_wp2_with fail
      go_ret
      exact ⟨rfl, rfl⟩
    | succ g =>
      have hlt : ((j : Int) < (c.length : Int)) := by omega
      have hjl : j < c.length := by omega
      have hm := List.all_eq_true.1 H1.out c[j] (List.getElem_mem hjl)
      simp only [Bool.or_eq_true, beq_iff_eq] at hm
      rcases hm with hm | hm
      · have q1 : ((c[j].toNat : Int) != 48) = false := by rw [hm]; rfl
        clear hm
        go_wp2_with fail
        go_roundg g
        case measure => omega
        case rel => exact ⟨j + 1, by omega, rfl, rfl⟩
      · have q1 : ((c[j].toNat : Int) != 48) = true := by rw [hm]; rfl
        have q3 : ((c[j].toNat : Int) != 49) = false := by rw [hm]; rfl
        clear hm
        go_wp2_with fail
        go_roundg g
        case measure => omega
        case rel => exact ⟨j + 1, by omega, rfl, rfl⟩
/-- the tree that lies at block b -/
def TreeAt (w : World) (b m : Nat) (cs : List (List UInt8)) (ns : List Int) : Prop := ∃ X Y x y, Blk w b 143 #[.slice X m x, .slice Y m y] ∧ Sl w X (cs.map strV) ∧ Sl w Y (ns.map intV)
def MakePost (m : Nat) (cs : List (List UInt8)) (ns : List Int) (w : World) (e : Ending) (w' : World) : Prop := ∃ b, e = .returned (.tuple #[.pointer (some ⟨b, 0, none⟩), .int .i64 0]) ∧ TreeAt w' b m cs ns ∧ Below w.heap.size w w'
set_option maxRecDepth 100000 in
set_option maxHeartbeats 2000000 in
theorem ref03_Make (A B : Option Addr) (n c d : Nat) (cs : List (List UInt8)) (ns : List Int) (w : World) (hA : Sl w A (cs.map strV)) (hB : Sl w B (ns.map intV)) (hc : cs.length = n) (hn : ns.length = n) (h1 : 1 ≤ n) (h300 : n ≤ 300)
    (hcode : cs.all isCode = true) (hfree : codesFree cs = true) :
    Calls Tryz.prog 116 #[.slice A n c, .slice B n d] w (MakePost n cs ns w) := by
  have HA := Lib.hid hA; have HB := Lib.hid hB; have Hc := Lib.hid hc; have Hn := Lib.hid hn; have Hcode := Lib.hid hcode; have Hfree := Lib.hid hfree
  clear hA hB hc hn hcode hfree
  have e0 : ((n : Int) == 0) = false := by rw [beq_eq_false_iff_ne]; omega
  have e3 : decide (300 < (n : Int)) = false := by simp; omega
  go_enter Tryz.func116, Tryz.ntmps116
  go_wp2_with fail
  go_loopg [6] n (fun g i => fun wr => ∃ (j : Nat), j + g = n ∧ i = .int .i64 (j : Int) ∧ w = wr)
  case atStart => exact ⟨0, by omega, rfl, rfl⟩
  case round =>
    obtain ⟨j, hj, rfl, rfl⟩ := hrel
    cases gk with
    | succ g =>
      have hlt : ((j : Int) < (n : Int)) := by omega
      have hjl : j < cs.length := by rw [Hc.out]; omega
      obtain ⟨ad, rfl, _, hcell⟩ := HA.out.at_ j (by simpa using hjl)
      rw [List.getElem_map] at hcell
      unfold strV at hcell
      have hcd := Lib.hid (List.all_eq_true.1 Hcode.out cs[j] (List.getElem_mem hjl))
      go_wp2_with (go_at_call 146; refine (ref03_code _ hcd.out _).mono ?_; rintro e w' ⟨rfl, rfl⟩)
      go_roundg g
      case measure => omega
      case rel => exact ⟨j + 1, by omega, rfl, rfl⟩
    | zero =>
      have hlt : ¬ ((j : Int) < (n : Int)) := by omega
      go_wp2_with fail
      go_loopg [7] n (fun g i => fun wr => ∃ (j : Nat), j + g = n ∧ i = .int .i64 (j : Int) ∧ Below w.heap.size w wr)
      case atStart => exact ⟨0, by omega, rfl, Below.refl _ _⟩
      case round =>
        obtain ⟨i, hi, rfl, hb⟩ := hrel
        cases gk with
        | succ g1 =>
          have hlt : ((i : Int) < (n : Int)) := by omega
          go_wp2_with fail
          go_loopg [8] n (fun g k => fun wr => ∃ (j : Nat), j + g = n ∧ k = .int .i64 (j : Int) ∧ Below w.heap.size w wr)
          case atStart => exact ⟨0, by omega, rfl, hb⟩
          case round =>
            obtain ⟨k, hk, rfl, hb⟩ := hrel
            cases gk with
            | zero =>
              have hlt : ¬ ((k : Int) < (n : Int)) := by omega
              go_wp2_with fail
              go_roundg g1
              case measure => omega
              case rel => exact ⟨i + 1, by omega, rfl, hb⟩
            | succ g2 =>
              have hlt : ((k : Int) < (n : Int)) := by omega
              by_cases hik : i = k
              · have e1 : ((i : Int) != (k : Int)) = false := by rw [hik]; simp
                go_wp2_with fail
                refine wp_region_plan2 (fun _ => True) 12 [(0, true), (1, true), (2, true), (3, true), (4, true), (5, true), (6, true), (7, true), (8, true), (9, true), (10, true), (11, true)] (by kernel_rfl) (by kernel_rfl) (fun _ _ d _ _ h => by cases d <;> exact h) (by decide) (by simp only [List.map_cons, List.map_nil, Array.getD_eq_getD_getElem?, List.getElem?_toArray, List.getElem?_cons_zero, List.getElem?_cons_succ, Option.getD_some]; rfl) (by simp only [List.map_cons, List.map_nil]; rfl) (trivial) (fun PE hPE => ?_)
                iterate 4
                  refine plan_take (v := ?_) rfl (by rfl) ?_ ?_
                  rotate_left
                  · intro _ hSw; (try dsimp only at hSw); go_simp; (try with_reducible rfl)
                  simp only [List.setIfInBounds_toArray, List.set_cons_zero, List.set_cons_succ]
                iterate 8
                  refine plan_pass rfl (by rfl) ?_
                  simp only [List.setIfInBounds_toArray, List.set_cons_zero, List.set_cons_succ]
                (refine hPE _ _ ?_; simp only [List.drop_succ_cons, List.drop_zero]; clear hPE PE)
                go_wp2_with fail
                go_roundg g2
                case measure => omega
                case rel => exact ⟨k + 1, by omega, rfl, hb.drew⟩
              · have e1 : ((i : Int) != (k : Int)) = true := by rw [bne_iff_ne]; omega
                have hil : i < cs.length := by rw [Hc.out]; omega
                have hkl : k < cs.length := by rw [Hc.out]; omega
                have hfr : (cs[k]).isPrefixOf cs[i] = false := by
                  have := List.all_eq_true.1 (List.all_eq_true.1 Hfree.out i (List.mem_range.2 hil)) k (List.mem_range.2 hkl)
                  simpa [hik, List.getD, hil, hkl] using this
                have hlen : (cs[i]).length ≤ 24 := by
                  have := List.all_eq_true.1 Hcode.out cs[i] (List.getElem_mem hil)
                  simp only [isCode, Bool.and_eq_true, decide_eq_true_eq] at this
                  omega
                have HA2 := HA.out.below hb
                obtain ⟨ad, hAd, _, hci⟩ := HA2.at_ i (by simpa using hil)
                obtain ⟨ad', hAd', _, hck⟩ := HA2.at_ k (by simpa using hkl)
                obtain rfl : ad = ad' := by rw [hAd] at hAd'; cases hAd'; rfl
                rw [List.getElem_map] at hci hck
                unfold strV at hci hck
                generalize cs[i] = ci at hci hfr hlen
                generalize cs[k] = ck at hck hfr
                have Hbe := Lib.hid (fun W => ref03_begins ci ck W)
                rw [hfr] at Hbe
                clear HA2 hik hfr
                subst hAd
                clear hAd'
                go_wp2_with fail
                refine wp_region_plan2 (fun w' => w'.cell? (ad.add i) = some (.string (bs ci)) ∧ w'.cell? (ad.add k) = some (.string (bs ck))) 12 [(0, true), (1, true), (2, true), (3, true), (4, true), (5, true), (6, true), (7, true), (8, true), (9, true), (10, true), (11, true)] (by kernel_rfl) (by kernel_rfl) (fun _ _ d _ _ h => by cases d <;> exact h) (by decide) (by simp only [List.map_cons, List.map_nil, Array.getD_eq_getD_getElem?, List.getElem?_toArray, List.getElem?_cons_zero, List.getElem?_cons_succ, Option.getD_some]; rfl) (by simp only [List.map_cons, List.map_nil]; rfl) (⟨hci, hck⟩) (fun PE hPE => ?_)
                iterate 12
                  refine plan_take (v := ?_) rfl (by rfl) ?_ ?_
                  rotate_left
                  · intro _ hSw; (try dsimp only at hSw); obtain ⟨hS1, hS2⟩ := hSw; go_simp; (try with_reducible rfl)
                  simp only [List.setIfInBounds_toArray, List.set_cons_zero, List.set_cons_succ]
                (refine hPE _ _ ?_; simp only [List.drop_succ_cons, List.drop_zero]; clear hPE PE)
                go_wp2_with (go_at_call 118; refine (Hbe.out _).mono ?_; rintro e w' ⟨rfl, rfl⟩)
                go_roundg g2
                case measure => omega
                case rel => exact ⟨k + 1, by omega, rfl, hb.drew⟩
        | zero =>
          have hlt : ¬ ((i : Int) < (n : Int)) := by omega
          have ho0 : (wr.alloc (.cells #[] 9)).ownsRow wr.heap.size 9 1 (.slice (some ⟨wr.heap.size, 0, none⟩) 0 0) 0 [] := World.ownsRow_lit wr #[] 0 (Nat.le_refl _) (by decide) rfl
          have Ho0 := Lib.hid ho0; clear ho0
          have HA2 := Lib.hid ((HA.out.below hb).alloc (.cells #[] 9))
          have HB2 := Lib.hid (HB.out.below hb)
          have tok : True := trivial
          go_wp2_with (first
            | (at_builtin; have _t := tok; refine wpList_app etStr rfl rfl rfl Ho0.out rfl (by simp [Hc.out]) HA2.out (strV_one _) (by omega) (by simp) ?_; clear tok; intro v1 w1 ho1 hg1 _; rw [Nat.zero_add, List.nil_append] at ho1; obtain ⟨g1, c1, rfl, _, _, _⟩ := own_pos ho1 (by omega); have Ho1 := Lib.hid ho1; clear ho1; have hb1 := below_app ((Below.refl wr.heap.size wr).alloc (Nat.le_refl _) (.cells #[] 9)) Ho0.out hg1 (by simp) (Nat.le_refl _); have Hb1 := Lib.hid hb1; clear hb1 hg1)
            | (at_builtin; refine wpList_app etInt rfl rfl rfl (World.ownsRow_lit w1 #[] 0 (Nat.le_refl _) (by decide) rfl) rfl (by simp [Hn.out]) ((HB2.out.below Hb1.out).alloc _) (intV_one _) (by omega) (by simp) ?_; intro v2 w2 ho2 hg2 _; rw [Nat.zero_add, List.nil_append] at ho2; obtain ⟨g2, c2, rfl, _, _, _⟩ := own_pos ho2 (by omega); have Ho2 := Lib.hid ho2; clear ho2; have ho20 : (w1.alloc (.cells #[] 3)).ownsRow w1.heap.size 3 1 (.slice (some ⟨w1.heap.size, 0, none⟩) 0 0) 0 [] := World.ownsRow_lit w1 #[] 0 (Nat.le_refl _) (by decide) rfl; have hb2 := below_app ((Below.refl w1.heap.size w1).alloc (Nat.le_refl _) (.cells #[] 3)) ho20 hg2 (by simp) (Nat.le_refl _); clear ho20; have Hb2 := Lib.hid hb2; clear hb2 hg2))
          go_ret2
          have hb12 := Hb1.out.trans (Hb2.out.mono Hb1.out.size)
          have hbw2 := hb.trans (hb12.mono hb.size)
          exact ⟨_, rfl, ⟨_, _, _, _, Blk.new w2 _ _, ((own_sl' Ho1.out).below Hb2.out).alloc _, (own_sl' Ho2.out).alloc _⟩, hbw2.alloc hbw2.size _⟩
set_option maxRecDepth 100000 in
set_option maxHeartbeats 4000000 in
theorem ref03_Get (b : Nat) (A : Option Addr) (n m c : Nat) (cs : List (List UInt8)) (ns : List Int) (l : List UInt8) (i : Int) (w : World) (hT : TreeAt w b m cs ns)
    (hm : cs.length = m) (hns : ns.length = m) (hm3 : m ≤ 300) (hlen : cs.all (fun c => decide (c.length ≤ 24)) = true) (hA : Sl w A (l.map byteV)) (hn : l.length = n) (hsz : n ≤ 2 ^ 47) (hi : -9223372036854775808 ≤ i ∧ i ≤ 9223372036854775807) :
    Calls Tryz.prog 78 #[.pointer (some ⟨b, 0, none⟩), .slice A n c, .int .i64 i] w fun e w' => e = .returned (.tuple #[.int .i64 (treeR cs ns l i).1, .int .i64 (treeR cs ns l i).2.1, .int .i64 (treeR cs ns l i).2.2]) ∧ Below w.heap.size w w' := by
  unfold treeR
  by_cases h1 : i < 0
  · have e1 : decide (i < 0) = true := by simpa using h1
    rw [if_pos h1]
    go_enter Tryz.func78, Tryz.ntmps78
    go_wp2_with fail
    go_ret3
    exact ⟨rfl, Below.refl _ _⟩
  have e1 : decide (i < 0) = false := by simpa using h1
  rw [if_neg h1]
  obtain ⟨k, rfl⟩ := Int.eq_ofNat_of_zero_le (by omega : 0 ≤ i)
  obtain ⟨X, Y, x, y, hB, hX, hY⟩ := hT
  rw [Int.toNat_natCast, hn]
  generalize hR : getT cs ns (bitsL l k (min 24 (8 * n - k))) = R
  have HR := Lib.hid hR; clear hR
  have Hn := Lib.hid hn; have Hm := Lib.hid hm; have Hns := Lib.hid hns; have HA := Lib.hid hA; have HX := Lib.hid hX; have HY := Lib.hid hY; have HB := Lib.hid hB; have Hlen := Lib.hid hlen
  clear hn hm hns hA hX hY hB hlen
  have hcv : ∀ (W : World) (A : Option Addr) (l : List UInt8) (n c : Nat), Sl W A (l.map byteV) → l.length = n → (convert 22 9 (.slice A n c)).run Tryz.prog W = .ok (.string (bs l)) W := fun W A l n c h hn => run_bytes_str (P := Tryz.prog) 22 9 5 (by kernel_rfl) (by kernel_rfl) (by kernel_rfl) h n c hn
  have Hcv := Lib.hid hcv; clear hcv
  go_enter Tryz.func78, Tryz.ntmps78
  go_wp2_with fail
  go_loopg [9] 24 (fun g t => fun wr => ∃ (j : Nat), j + g = 24 ∧ t = .string (bs (bitsL l k j)) ∧ (j = 0 ∨ k + j ≤ 8 * n) ∧ Below w.heap.size w wr)
  case atStart => exact ⟨0, by omega, rfl, .inl rfl, Below.refl _ _⟩
  case round =>
    obtain ⟨j, hj, rfl, hin, hb⟩ := hrel
    have hbl := bitsL_length l k j
    by_cases hmore : j < 24 ∧ k + j < 8 * n
    · obtain ⟨hj24, hkj⟩ := hmore
      have t1 : decide ((k : Int) + (j : Int) < 8 * (n : Int)) = true := by simp; omega
      have t2 : decide ((j : Int) < 24) = true := by simp; omega
      have Hs := Lib.hid (bitsL_succ l k j)
      have H1 := Lib.hid (numN_one l (k + j))
      have hbit := bitN_lt l (k + j)
      cases gk with
      | zero => omega
      | succ g =>
      by_cases hz : bitN l (k + j) = 0
      · have hz48 : bitC l (k + j) = 48 := by simp [bitC, hz]
        have Hz := Lib.hid hz48; clear hz48
        have Rd := Lib.hid (fun (W : World) (h : Sl W A (l.map byteV)) => ref01_Read A n c l ((k : Int) + j) 1 W h Hn.out (by omega) (by omega) (by omega) (by omega) hsz)
        rw [show ((k:Int)+j).toNat = k + j by omega, show (1 : Int).toNat = 1 from rfl, H1.out, hz] at Rd
        have hcv1 := Hcv.out (wr.alloc (.cells #[.int .u8 48] 5)) (some ⟨wr.heap.size, 0, none⟩) [48] 1 1 (Blk.sl (Blk.new wr 5 #[.int .u8 48]) 0) rfl
        clear hz
        go_wp2_with (first | (go_at_call 36; refine (ref01_Count _ _ _ _ hsz).mono ?_; rintro e w' ⟨rfl, rfl⟩) | (go_at_call 39; refine (Rd.out _ (HA.out.below hb)).mono ?_; rintro e w' ⟨rfl, rfl⟩))
        go_roundg g
        case measure => omega
        case rel => exact ⟨j + 1, by omega, by rw [Hs.out, Hz.out], .inr (by omega), hb.alloc hb.size _⟩
      · have hz49 : bitC l (k + j) = 49 := by simp [bitC, hz]
        have Hz := Lib.hid hz49; clear hz49
        have hz1 : bitN l (k + j) = 1 := by omega
        have Rd := Lib.hid (fun (W : World) (h : Sl W A (l.map byteV)) => ref01_Read A n c l ((k : Int) + j) 1 W h Hn.out (by omega) (by omega) (by omega) (by omega) hsz)
        rw [show ((k:Int)+j).toNat = k + j by omega, show (1 : Int).toNat = 1 from rfl, H1.out, hz1] at Rd
        have hcv1 := Hcv.out (wr.alloc (.cells #[.int .u8 49] 5)) (some ⟨wr.heap.size, 0, none⟩) [49] 1 1 (Blk.sl (Blk.new wr 5 #[.int .u8 49]) 0) rfl
        clear hz hz1
        go_wp2_with (first | (go_at_call 36; refine (ref01_Count _ _ _ _ hsz).mono ?_; rintro e w' ⟨rfl, rfl⟩) | (go_at_call 39; refine (Rd.out _ (HA.out.below hb)).mono ?_; rintro e w' ⟨rfl, rfl⟩))
        go_roundg g
        case measure => omega
        case rel => exact ⟨j + 1, by omega, by rw [Hs.out, Hz.out], .inr (by omega), hb.alloc hb.size _⟩
    · have hR2 : getT cs ns (bitsL l k j) = R := by rw [← HR.out, show min 24 (8 * n - k) = j by omega]
      have HR2 := Lib.hid hR2
      clear hR2 HR
      generalize bitsL l k j = s at HR2 hbl
      have t3 : decide ((k : Int) + (j : Int) < 8 * (n : Int)) = true ∧ decide ((j : Int) < 24) = false ∨ decide ((k : Int) + (j : Int) < 8 * (n : Int)) = false := by
        by_cases hq : k + j < 8 * n
        · left; constructor
          · simp; omega
          · simp; omega
        · right; simp; omega
      clear hmore
      have hfin : ∀ q, q ≤ m → Hid (findR s (cs.drop q) (ns.drop q) = findR s cs ns) → q < m → ∀ (hq1 : q < cs.length) (hq2 : q < ns.length), (if (cs[q]).isPrefixOf s then some (ns[q], ((cs[q]).length : Int)) else findR s (cs.drop (q + 1)) (ns.drop (q + 1))) = findR s cs ns := fun q _ h _ hq1 hq2 => by
        have h1 := h.out
        rw [List.drop_eq_getElem_cons hq1, List.drop_eq_getElem_cons hq2, findR] at h1
        exact h1
      have Hfin := Lib.hid hfin; clear hfin
      rcases t3 with ⟨t1, t2⟩ | t1
      all_goals
        go_wp2_with (go_at_call 36; refine (ref01_Count _ _ _ _ hsz).mono ?_; rintro e w' ⟨rfl, rfl⟩)
        clear t1
        go_loopg [12] m (fun g t => fun wx => ∃ (q : Nat), q + g = m ∧ t = .int .i64 (q : Int) ∧ Hid (findR s (cs.drop q) (ns.drop q) = findR s cs ns) ∧ Below w.heap.size w wx)
        case atStart => exact ⟨0, by omega, rfl, Lib.hid rfl, hb⟩
        case round =>
          obtain ⟨q, hq, rfl, HF, hb⟩ := hrel
          have hB2 := HB.out.below hb HB.out.lt
          have hc0 : wr.cell? ⟨b, 0, none⟩ = some (.slice X m x) := by rw [hB2.cell]; rfl
          have hc1 : wr.cell? ⟨b, 1, none⟩ = some (.slice Y m y) := by rw [hB2.cell]; rfl
          cases gk with
          | succ g =>
            have hlt : ((q : Int) < (m : Int)) := by omega
            have hq1 : q < cs.length := by rw [Hm.out]; omega
            have hq2 : q < ns.length := by rw [Hns.out]; omega
            obtain ⟨ad, rfl, _, hcx⟩ := (HX.out.below hb).at_ q (by simpa using hq1)
            rw [List.getElem_map] at hcx
            unfold strV at hcx
            obtain ⟨ae, rfl, _, hcy⟩ := (HY.out.below hb).int q hq2
            have hst := Hfin.out q (by omega) HF (by omega) hq1 hq2
            generalize cs[q] = cq at hcx hst
            generalize ns[q] = nq at hcy hst
            by_cases hp : cq.isPrefixOf s = true
            · rw [if_pos hp] at hst
              have Hst := Lib.hid hst; clear hst
              have Bg := Lib.hid (fun W => ref03_begins s cq W)
              rw [hp] at Bg
              clear hp
              go_wp2_with (go_at_call 118; refine (Bg.out _).mono ?_; rintro e w' ⟨rfl, rfl⟩)
              refine wp_region_plan2 (fun w' => w'.cell? ⟨b, 0, none⟩ = some (.slice (some ad) m x) ∧ w'.cell? ⟨b, 1, none⟩ = some (.slice (some ae) m y) ∧ w'.cell? (ad.add q) = some (.string (bs cq)) ∧ w'.cell? (ae.add q) = some (.int .i64 nq)) 16 [(0, true), (1, true), (2, true), (3, true), (4, true), (5, true), (6, true), (7, true), (8, true), (9, true), (10, true), (11, true), (12, true), (13, true), (14, true), (15, false)] (by kernel_rfl) (by kernel_rfl) (fun _ _ d _ _ h => by cases d <;> exact h) (by decide) (by simp only [List.map_cons, List.map_nil, Array.getD_eq_getD_getElem?, List.getElem?_toArray, List.getElem?_cons_zero, List.getElem?_cons_succ, Option.getD_some]; rfl) (by simp only [List.map_cons, List.map_nil]; rfl) (⟨hc0, hc1, hcx, hcy⟩) (fun PE hPE => ?_)
              iterate 15
                refine plan_take (v := ?_) rfl (by rfl) ?_ ?_
                rotate_left
                · intro _ hSw; (try dsimp only at hSw); obtain ⟨hS1, hS2, hS3, hS4⟩ := hSw; go_simp; (try with_reducible rfl)
                simp only [List.setIfInBounds_toArray, List.set_cons_zero, List.set_cons_succ]
              refine plan_value (v := ?_) (w' := ?_) rfl (by rfl) ?_ ?_ ?_
              rotate_left 2
              · go_simp; (try (constructor <;> with_reducible rfl))
              · exact ⟨hc0, hc1, hcx, hcy⟩
              simp only [List.setIfInBounds_toArray, List.set_cons_zero, List.set_cons_succ]
              (refine hPE _ _ ?_; simp only [List.drop_succ_cons, List.drop_zero]; clear hPE PE)
              go_wp2_with fail
              go_ret3
              refine ⟨?_, hb.drew⟩
              rw [← HR2.out, getT, ← Hst.out]
              rfl
            · have hp' : cq.isPrefixOf s = false := Bool.eq_false_iff.2 hp
              rw [if_neg hp] at hst
              have Hst := Lib.hid hst; clear hst
              have Bg := Lib.hid (fun W => ref03_begins s cq W)
              rw [hp'] at Bg
              clear hp hp'
              go_wp2_with (go_at_call 118; refine (Bg.out _).mono ?_; rintro e w' ⟨rfl, rfl⟩)
              go_roundg g
              case measure => omega
              case rel => exact ⟨q + 1, by omega, rfl, Hst, hb⟩
          | zero =>
            have hlt : ¬ ((q : Int) < (m : Int)) := by omega
            have hno : findR s cs ns = none := by
              rw [← HF.out, List.drop_eq_nil_of_le (by rw [Hm.out]; omega), findR.eq_def]
            have Hno := Lib.hid hno; clear hno HF
            go_wp2_with fail
            go_loopg [13] m (fun g t => fun wx => ∃ (q : Nat), q + g = m ∧ t = .int .i64 (q : Int) ∧ Hid ((cs.drop q).any (fun c => s.isPrefixOf c) = cs.any (fun c => s.isPrefixOf c)) ∧ Below w.heap.size w wx)
            case atStart => exact ⟨0, by omega, rfl, Lib.hid rfl, hb⟩
            case round =>
              obtain ⟨q, hq, rfl, HF, hb⟩ := hrel
              have hB2 := HB.out.below hb HB.out.lt
              have hc0 : wr.cell? ⟨b, 0, none⟩ = some (.slice X m x) := by rw [hB2.cell]; rfl
              cases gk with
              | succ g =>
                have hlt : ((q : Int) < (m : Int)) := by omega
                have hq1 : q < cs.length := by rw [Hm.out]; omega
                obtain ⟨ad, rfl, _, hcx⟩ := (HX.out.below hb).at_ q (by simpa using hq1)
                rw [List.getElem_map] at hcx
                unfold strV at hcx
                have hst := HF.out
                rw [List.drop_eq_getElem_cons hq1, List.any_cons] at hst
                generalize cs[q] = cq at hcx hst
                by_cases hp : s.isPrefixOf cq = true
                · rw [hp, Bool.true_or] at hst
                  have Hst := Lib.hid hst; clear hst
                  have Bg := Lib.hid (fun W => ref03_begins cq s W)
                  rw [hp] at Bg
                  clear hp
                  go_wp2_with (go_at_call 118; refine (Bg.out _).mono ?_; rintro e w' ⟨rfl, rfl⟩)
                  go_ret3
                  refine ⟨?_, hb⟩
                  rw [← HR2.out, getT, Hno.out]
                  simp only [← Hst.out, if_true]
                  rfl
                · have hp' : s.isPrefixOf cq = false := Bool.eq_false_iff.2 hp
                  rw [hp', Bool.false_or] at hst
                  have Hst := Lib.hid hst; clear hst
                  have Bg := Lib.hid (fun W => ref03_begins cq s W)
                  rw [hp'] at Bg
                  clear hp hp'
                  go_wp2_with (go_at_call 118; refine (Bg.out _).mono ?_; rintro e w' ⟨rfl, rfl⟩)
                  go_roundg g
                  case measure => omega
                  case rel => exact ⟨q + 1, by omega, rfl, Hst, hb⟩
              | zero =>
                have hlt : ¬ ((q : Int) < (m : Int)) := by omega
                have hst := HF.out
                rw [List.drop_eq_nil_of_le (by rw [Hm.out]; omega), List.any_nil] at hst
                have Hst := Lib.hid hst; clear hst
                go_wp2_with fail
                go_ret3
                refine ⟨?_, hb⟩
                rw [← HR2.out, getT, Hno.out]
                simp only [← Hst.out]
                rfl
end Go.Proofs.YtcojnigkgbmbmaaGreatDoor
