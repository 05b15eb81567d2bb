/- address.Get: what it answers. -/
import Derived.Test.YtedjplbiibflmaaDoorAddrP
namespace Go.Proofs.YtedjplbiibflmaaDoor
open Go Go.RowKit
def agree (c s : List UInt8) : Bool := c.take (min c.length s.length) == s.take (min c.length s.length)
def lookR (s : List UInt8) : List (List UInt8) → Nat → Bool → Int × Int × Int
  | [], _, more => if more then (0, 0, 5) else (0, 0, 7)
  | c :: cs, n, more => if agree c s then (if c.length ≤ s.length then ((n : Int), (c.length : Int), 0) else lookR s cs (n + 1) true) else lookR s cs (n + 1) more
def noughts : List UInt8 := List.replicate 15 48
def getR (l : List UInt8) (i : Int) : Int × Int × Int :=
  if i < 0 then (0, 0, 3) else if 8 * (l.length : Int) < i then (0, 0, 5) else
  let s := bitsL l i.toNat (min 15 (8 * l.length - i.toNat))
  if s = noughts then (34, 0, 0) else lookR s codesL 0 (s.isPrefixOf noughts)
theorem agree_of (c s : List UInt8) (h : ∀ t, t < min c.length s.length → c[t]? = s[t]?) : agree c s = true := by
  unfold agree
  rw [beq_iff_eq]
  apply List.ext_getElem?
  intro t
  rw [List.getElem?_take, List.getElem?_take]
  split
  · rename_i ht; exact h t ht
  · rfl
theorem agree_not (c s : List UInt8) (t : Nat) (ht : t < min c.length s.length) (h : c[t]? ≠ s[t]?) : agree c s = false := by
  unfold agree
  rw [beq_eq_false_iff_ne]
  intro he
  apply h
  have := congrArg (fun l => l[t]?) he
  rw [List.getElem?_take, List.getElem?_take, if_pos ht, if_pos ht] at this
  exact this
set_option maxRecDepth 100000 in
set_option maxHeartbeats 2000000 in
theorem address_Get (A : Option Addr) (n c : Nat) (l : List UInt8) (i : Int) (w : World) (hT : Tz w) (hr : Sl w A (l.map byteV)) (hn : l.length = n) (hsz : n ≤ 2 ^ 47) (hi : -9223372036854775808 ≤ i ∧ i ≤ 9223372036854775807) :
    Calls Tryd.prog 11 #[.slice A n c, .int .i64 i] w fun e w' => e = .returned (.tuple #[.int .i64 (getR l i).1, .int .i64 (getR l i).2.1, .int .i64 (getR l i).2.2]) ∧ Below w.heap.size w w' := by
  have HT := Lib.hid hT; clear hT
  unfold getR
  by_cases h1 : i < 0
  · have e1 : decide (i < 0) = true := by simpa using h1
    rw [if_pos h1]
    go_enter Tryd.func11, Tryd.ntmps11
    go_wp2_with fail
    go_step3
    go_wp2; (try rw [Exit.noGoto_ret]); go_ret3; exact ⟨rfl, Below.refl _ _⟩
  have e1 : decide (i < 0) = false := by simpa using h1
  rw [if_neg h1, hn]
  by_cases h2 : 8 * (n : Int) < i
  · rw [if_pos h2]
    go_enter Tryd.func11, Tryd.ntmps11
    go_wp2_with fail
    go_step3
    go_wp2; (try rw [Exit.noGoto_ret]); go_ret3; exact ⟨rfl, Below.refl _ _⟩
  rw [if_neg h2]
  have Hseen := Lib.hid (address_seen A n c l i w hr hn (by omega) (by omega) hsz)
  have hsl : (bitsL l i.toNat (min 15 (8 * n - i.toNat))).length ≤ 15 := by rw [bitsL_length]; omega
  generalize bitsL l i.toNat (min 15 (8 * n - i.toNat)) = s at Hseen hsl
  show Calls _ _ _ _ fun e w' => e = .returned (.tuple #[.int .i64 (if s = noughts then (34, 0, 0) else lookR s codesL 0 (s.isPrefixOf noughts) : Int × Int × Int).1, .int .i64 (if s = noughts then (34, 0, 0) else lookR s codesL 0 (s.isPrefixOf noughts) : Int × Int × Int).2.1, .int .i64 (if s = noughts then (34, 0, 0) else lookR s codesL 0 (s.isPrefixOf noughts) : Int × Int × Int).2.2]) ∧ Below w.heap.size w w'
  have hrep : ∀ W : World, Calls Tryd.prog 27 #[.string { data := #[48] }, .int .i64 15] W fun e w' => e = .returned (.string (bs noughts)) ∧ Below W.heap.size W w' := fun W => Tryd.strings_Repeat ⟨#[48]⟩ 15 W (by decide) (by decide)
  have Hrep := Lib.hid hrep; clear hrep
  by_cases hs : s = noughts
  · rw [if_pos hs]
    have hbe : (s == noughts) = true := by rw [hs]; exact beq_self_eq_true _
    clear hs
    go_enter Tryd.func11, Tryd.ntmps11
    go_wp2_with fail
    go_step3
    go_wp2_with (first | (go_at_call 25; refine (bits_Count _ _ _ _ hsz).mono ?_; rintro e w' ⟨rfl, rfl⟩) | (go_at_call 26; refine Hseen.out.mono ?_; rintro e w' ⟨rfl, rfl⟩) | (go_at_call 27; refine (Hrep.out _).mono ?_; rintro e w1 ⟨rfl, hb1⟩))
    (try rw [Exit.noGoto_ret]); go_ret3; exact ⟨rfl, hb1⟩
  rw [if_neg hs]
  have hbe : (s == noughts) = false := by rw [beq_eq_false_iff_ne]; exact hs
  clear hs
  have hpre : ∀ W : World, Calls Tryd.prog 28 #[.string (bs noughts), .string (bs s)] W fun e w' => e = .returned (.bool (s.isPrefixOf noughts)) ∧ W = w' := fun W => by
    have := Tryd.strings_HasPrefix (bs noughts) (bs s) W
    rw [bs_toList, bs_toList] at this
    exact this.mono fun e w' h => ⟨h.1, h.2.symm⟩
  have Hpre := Lib.hid hpre; clear hpre
  generalize s.isPrefixOf noughts = m0 at Hpre ⊢
  generalize hR : lookR s codesL 0 m0 = R
  have HR := Lib.hid hR; clear hR
  go_enter Tryd.func11, Tryd.ntmps11
  go_wp2_with fail
  go_step3
  go_wp2_with (first | (go_at_call 25; refine (bits_Count _ _ _ _ hsz).mono ?_; rintro e w' ⟨rfl, rfl⟩) | (go_at_call 26; refine Hseen.out.mono ?_; rintro e w' ⟨rfl, rfl⟩) | (go_at_call 27; refine (Hrep.out _).mono ?_; rintro e w1 ⟨rfl, hb1⟩) | (go_at_call 28; refine (Hpre.out _).mono ?_; rintro e w' ⟨rfl, rfl⟩))
  go_step3
  go_wp2_with fail
  refine (address_codes _ (HT.out.below hb1)).mono ?_
  rintro e w2 ⟨A1, c1, rfl, hS, hb2⟩
  rw [codesV_eq] at hS
  replace hb2 := hb1.trans (hb2.mono hb1.size)
  go_wp2_with fail
  go_loopg [9, 31] 34 (fun g more idx wr => ∃ (k : Nat) (m : Bool), k + g = 34 ∧ idx = .int .i64 (k : Int) ∧ more = .bool m ∧ Hid (lookR s (codesL.drop k) k m = R) ∧ Sl wr A1 (codesL.map strV) ∧ Below w.heap.size w wr)
  case atStart => exact ⟨0, m0, by omega, rfl, rfl, HR, hS, hb2⟩
  case round =>
    obtain ⟨k, m, hkg, rfl, rfl, HL, hS, hb2⟩ := hrel
    cases gk with
    | zero =>
      have hk : ¬ ((k : Int) < 34) := by omega
      obtain rfl : k = 34 := by omega
      have hL := HL.out
      clear HL
      cases m with
      | true =>
        go_wp2_with fail
        (try rw [Exit.noGoto_ret]); go_ret3
        exact ⟨by rw [← hL]; rfl, hb2⟩
      | false =>
        go_wp2_with fail
        (try rw [Exit.noGoto_ret]); go_ret3
        exact ⟨by rw [← hL]; rfl, hb2⟩
    | succ g =>
      have hk : ((k : Int) < 34) := by omega
      have hkl : k < codesL.length := by rw [codesL_length]; omega
      obtain ⟨ad, rfl, _, hc⟩ := hS.at_ k (by simpa using hkl)
      rw [List.getElem_map] at hc
      unfold strV at hc
      have HL2 := HL.out
      rw [List.drop_eq_getElem_cons hkl] at HL2
      generalize codesL[k] = cd at hc HL2
      have HL2 := Lib.hid HL2
      obtain ⟨mn, hmn⟩ : ∃ mn : Nat, mn = min cd.length s.length := ⟨_, rfl⟩
      have hmin : min (cd.length : Int) (s.length : Int) = (mn : Int) := by omega
      have hm1 : mn ≤ cd.length := by omega
      have hm2 : mn ≤ s.length := by omega
      have Hmn := Lib.hid hmn; clear hmn
      go_wp2_with fail
      clear hmin
      go_loopg [41] mn (fun g2 t wx => ∃ j : Nat, j + g2 = mn ∧ t = .int .i64 (j : Int) ∧ Hid (∀ t, t < j → cd[t]? = s[t]?) ∧ Sl wx (some ad) (codesL.map strV) ∧ Below w.heap.size w wx)
      case atStart => exact ⟨0, by omega, rfl, Lib.hid (fun t ht => absurd ht (by omega)), hS, hb2⟩
      case round =>
        obtain ⟨j, hj, rfl, Hag, hS, hb2⟩ := hrel
        cases gk with
        | zero =>
          obtain rfl : j = mn := by omega
          have hjz : ¬ ((j : Int) < (j : Int)) := by omega
          have hagr : agree cd s = true := agree_of cd s (by rw [← Hmn.out]; exact Hag.out)
          have hL3 := HL2.out
          rw [lookR, hagr, if_pos rfl] at hL3
          by_cases hle : cd.length ≤ s.length
          · rw [if_pos hle] at hL3
            have Hl3 := Lib.hid hL3
            clear hL3 HL2 hagr
            go_wp2_with fail
            (try rw [Exit.noGoto_ret]); go_ret3
            exact ⟨by rw [← Hl3.out]; rfl, hb2⟩
          · rw [if_neg hle] at hL3
            have Hl3 := Lib.hid hL3
            clear hL3 HL2 hagr
            go_wp2_with fail
            go_roundg g
            case measure => omega
            case rel => exact ⟨k + 1, true, by omega, rfl, rfl, Hl3, hS, hb2⟩
        | succ g2 =>
          have hjz : ((j : Int) < (mn : Int)) := by omega
          have hjc : j < cd.length := by omega
          have hjs : j < s.length := by omega
          go_wp2_with fail
          refine wp_region_plan2 (fun _ => True) 6 [(0, true), (1, true), (2, true), (3, true), (4, true), (5, true)] (by kernel_rfl) (by kernel_rfl) (fun _ _ d _ _ h => by cases d <;> exact h) (by decide) (by simp only [List.map_cons, List.map_nil, Array.getD_eq_getD_getElem?, List.getElem?_toArray, List.getElem?_cons_zero, List.getElem?_cons_succ, Option.getD_some]; rfl) (by simp only [List.map_cons, List.map_nil]; rfl) (trivial) (fun PE hPE => ?_)
          refine plan_take (v := ?_) rfl (by rfl) ?_ ?_
          rotate_left
          · intro _ hSw; (try dsimp only at hSw); go_simp; (try with_reducible rfl)
          simp only [List.setIfInBounds_toArray, List.set_cons_zero, List.set_cons_succ]
          refine plan_take (v := ?_) rfl (by rfl) ?_ ?_
          rotate_left
          · intro _ hSw; (try dsimp only at hSw); go_simp; (try with_reducible rfl)
          simp only [List.setIfInBounds_toArray, List.set_cons_zero, List.set_cons_succ]
          refine plan_take (v := ?_) rfl (by rfl) ?_ ?_
          rotate_left
          · intro _ hSw; (try dsimp only at hSw); go_simp; (try with_reducible rfl)
          simp only [List.setIfInBounds_toArray, List.set_cons_zero, List.set_cons_succ]
          refine plan_take (v := ?_) rfl (by rfl) ?_ ?_
          rotate_left
          · intro _ hSw; (try dsimp only at hSw); go_simp; (try with_reducible rfl)
          simp only [List.setIfInBounds_toArray, List.set_cons_zero, List.set_cons_succ]
          refine plan_take (v := ?_) rfl (by rfl) ?_ ?_
          rotate_left
          · intro _ hSw; (try dsimp only at hSw); go_simp; (try with_reducible rfl)
          simp only [List.setIfInBounds_toArray, List.set_cons_zero, List.set_cons_succ]
          refine plan_take (v := ?_) rfl (by rfl) ?_ ?_
          rotate_left
          · intro _ hSw; (try dsimp only at hSw); go_simp; (try with_reducible rfl)
          simp only [List.setIfInBounds_toArray, List.set_cons_zero, List.set_cons_succ]
          (refine hPE _ _ ?_; simp only [List.drop_succ_cons, List.drop_zero]; clear hPE PE)
          by_cases heq : cd[j] = s[j]
          · have hq : ((s[j].toNat : Int) != (cd[j].toNat : Int)) = false := by rw [heq]; simp
            go_wp2_with fail
            go_roundg g2
            case measure => omega
            case rel =>
              refine ⟨j + 1, by omega, rfl, Lib.hid (fun t ht => ?_), hS, hb2.drew⟩
              by_cases htj : t < j
              · exact Hag.out t htj
              · obtain rfl : t = j := by omega
                simp [hjc, hjs, heq]
          · have hq : ((s[j].toNat : Int) != (cd[j].toNat : Int)) = true := by
              rw [bne_iff_ne]; intro h; exact heq (UInt8.toNat_inj.1 (by omega))
            have hagr : agree cd s = false := agree_not cd s j (by omega) (by simp [hjc, hjs, heq])
            have hL3 := HL2.out
            rw [lookR, hagr, if_neg (by simp)] at hL3
            have Hl3 := Lib.hid hL3
            clear hL3 HL2 hagr heq
            go_wp2_with fail
            go_roundg g
            case measure => omega
            case rel => exact ⟨k + 1, m, by omega, rfl, rfl, Hl3, hS, hb2.drew⟩
end Go.Proofs.YtedjplbiibflmaaDoor
