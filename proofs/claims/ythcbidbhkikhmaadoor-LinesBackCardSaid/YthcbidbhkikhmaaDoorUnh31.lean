/- The program's unhex. -/
import Derived.Test.YthcbidbhkikhmaaDoorBld31
namespace Go.Proofs.YthcbidbhkikhmaaDoor
open Go Go.RowKit
def hexI (c : UInt8) : Int := if halfR c ≤ 15 then (halfR c : Nat) else -1
set_option maxRecDepth 100000 in
theorem hexI_all : ∀ n, n < 256 → Lib.indexByte hexS (UInt8.ofNat n) = hexI (UInt8.ofNat n) := by decide
theorem lines_index (c : UInt8) (w : World) : Calls Tryd.prog 57 #[.string ⟨#[48, 49, 50, 51, 52, 53, 54, 55, 56, 57, 97, 98, 99, 100, 101, 102]⟩, .int .u8 c.toNat] w fun e w' => e = .returned (.int .i64 (hexI c)) ∧ w = w' := by
  refine (Tryd.strings_IndexByte ⟨#[48, 49, 50, 51, 52, 53, 54, 55, 56, 57, 97, 98, 99, 100, 101, 102]⟩ (c.toNat : Int) w).mono ?_
  rintro e w' ⟨rfl, rfl⟩
  refine ⟨?_, rfl⟩
  have h := hexI_all c.toNat (UInt8.toNat_lt c)
  rw [show UInt8.ofNat c.toNat = c by simp] at h
  rw [← h, Int.toNat_natCast, show c.toNat.toUInt8 = c by simp]
  rfl
def hiN (s : List UInt8) (i : Nat) : UInt8 := UInt8.ofNat (16 * halfR (s.getD i 0))
def unP (s : List UInt8) (i : Nat) : List UInt8 := unhexL s (i / 2) ++ if i % 2 = 1 then [hiN s (i - 1)] else []
theorem unP_even (s : List UInt8) (i : Nat) (h : i % 2 = 0) : unP s i = unhexL s (i / 2) := by simp [unP, h]
theorem unP_odd (s : List UInt8) (i : Nat) (h : i % 2 = 0) : unP s (i + 1) = unhexL s (i / 2) ++ [hiN s i] := by
  have h1 : (i + 1) % 2 = 1 := by omega
  have h2 : (i + 1) / 2 = i / 2 := by omega
  simp [unP, h1, h2]
theorem set_last (l : List UInt8) (a b : UInt8) : (((l ++ [a]).map byteV).set l.length (byteV b)) = (l ++ [b]).map byteV := by simp
theorem or_pair : ∀ a, a < 16 → ∀ b, b < 16 → 16 * a ||| b = 16 * a + b := by decide
set_option maxRecDepth 100000 in
set_option maxHeartbeats 8000000 in
theorem lines_unhex (s : List UInt8) (w : World) (hsz : s.length ≤ 10000) : Calls Tryd.prog 50 #[.string (bs s)] w (BytesPost 5 (bytesR s) w) := by
  obtain ⟨r, hr⟩ : ∃ r, bytesR s = r := ⟨_, rfl⟩
  rw [hr]
  unfold bytesR at hr
  by_cases h0 : s = [45]
  · subst h0
    rw [if_pos rfl] at hr
    subst hr
    go_enter Tryd.func50, Tryd.ntmps50
    go_wp2_with fail
    go_ret2
    exact BytesPost.nil _ _ _
  have q0 : (s == [45]) = false := beq_eq_false_iff_ne.2 h0
  rw [if_neg h0] at hr
  by_cases h1 : s = []
  · subst h1
    rw [if_pos (Or.inl rfl)] at hr
    subst hr
    go_enter Tryd.func50, Tryd.ntmps50
    go_wp2_with fail
    go_ret2
    exact BytesPost.nil _ _ _
  have hpos : 0 < s.length := List.length_pos_iff.2 h1
  have q1' : (s == []) = false := beq_eq_false_iff_ne.2 h1
  obtain ⟨m, hm⟩ : ∃ m, m = s.length % 2 := ⟨_, rfl⟩
  have e1 : (s.length : Int) % 2 = (m : Int) := by omega
  have e2 : (s.length : Int).tmod 2 = (m : Int) := by rw [Int.tmod_eq_emod_of_nonneg (by omega)]; exact e1
  by_cases h2 : s.length % 2 ≠ 0
  · rw [if_pos (Or.inr (Or.inl h2))] at hr
    subst hr
    have q2 : ((m : Int) != 0) = true := by rw [bne_iff_ne]; omega
    clear h0 h1 h2 hm
    go_enter Tryd.func50, Tryd.ntmps50
    go_wp2_with fail
    go_ret2
    exact BytesPost.nil _ _ _
  have h2' : s.length % 2 = 0 := by omega
  have q2 : ((m : Int) != 0) = false := by rw [bne_eq_false_iff_eq]; omega
  by_cases h3 : 2000 < s.length
  · rw [if_pos (Or.inr (Or.inr h3))] at hr
    subst hr
    have q3 : 2000 < (s.length : Int) := by omega
    clear h0 h1 h2 h2' hm
    go_enter Tryd.func50, Tryd.ntmps50
    go_wp2_with fail
    go_ret2
    exact BytesPost.nil _ _ _
  have q3 : ¬ 2000 < (s.length : Int) := by omega
  rw [if_neg (by rintro (h | h | h) <;> contradiction)] at hr
  have Hr := Lib.hid hr
  have Hev := Lib.hid h2'
  clear h0 h1 h2 hm hr h2'
  go_enter Tryd.func50, Tryd.ntmps50
  go_wp2_with fail
  go_loopg [4, 24] s.length (fun g v i => fun wr => ∃ (j L : Nat), Hid (L = (j + 1) / 2) ∧ j + g = s.length ∧ i = .int .i64 (j : Int) ∧ wr.ownsRow w.heap.size 5 1 v L ((unP s j).map byteV) ∧ Below w.heap.size w wr ∧ Hid (∀ k, k < j → halfR (s.getD k 0) ≤ 15))
  case atStart => exact ⟨0, 0, Lib.hid rfl, by omega, rfl, World.ownsRow_nil _ _ _ _, Below.refl _ _, Lib.hid (fun k h => absurd h (by omega))⟩
  case round =>
    obtain ⟨j, L, Hj, hj, rfl, ho, hb, Hd⟩ := hrel
    have Ho := Lib.hid ho; clear ho
    cases gk with
    | zero =>
      obtain rfl : j = s.length := by omega
      have hlt : ¬ ((s.length : Int) < (s.length : Int)) := by omega
      go_wp2_with fail
      go_ret2
      have hall : s.all isHex = true := by
        rw [List.all_eq_true]; intro c hc
        obtain ⟨k, hk, rfl⟩ := List.getElem_of_mem hc
        have := Hd.out k hk
        rw [List.getD, List.getElem?_eq_getElem hk] at this
        exact decide_eq_true this
      have h1 := Hr.out
      rw [if_pos hall] at h1
      rw [← h1]
      have h2 := Ho.out
      have hL : L = s.length / 2 := by have := Hj.out; have := Hev.out; omega
      rw [unP_even s _ Hev.out, hL] at h2
      exact ⟨_, rfl, by show World.ownsRow _ _ _ _ _ (unhexL s (s.length / 2)).length _; rw [unhexL_length]; exact h2, hb⟩
    | succ g =>
      have hlt : ((j : Int) < (s.length : Int)) := by omega
      have ha : j < s.length := by omega
      have C1 := Lib.hid (fun W => lines_index s[j] W)
      obtain ⟨a, hA⟩ : ∃ a, a = halfR s[j] := ⟨_, rfl⟩
      by_cases ha15 : 15 < a
      · have hI : hexI s[j] = -1 := by unfold hexI; rw [if_neg (by omega)]
        rw [hI] at C1
        have HA := Lib.hid hA
        have Ha15 := Lib.hid ha15
        clear hI hA ha15
        go_wp2_with (go_at_call 57; refine (C1.out _).mono ?_; rintro e w' ⟨rfl, rfl⟩)
        go_ret2
        have hex_no : s.all isHex = false := by
          rw [Bool.eq_false_iff]; intro h
          have h1 := of_decide_eq_true (List.all_eq_true.1 h _ (List.getElem_mem ha))
          rw [← HA.out] at h1; exact absurd h1 (by have := Ha15.out; omega)
        have h1 := Hr.out
        rw [if_neg (by rw [hex_no]; exact Bool.false_ne_true)] at h1
        rw [← h1]
        exact ⟨_, rfl, World.ownsRow_nil _ _ _ _, hb⟩
      · have hI : hexI s[j] = (a : Int) := by unfold hexI; rw [if_pos (by omega), hA]
        rw [hI] at C1
        have HA := Lib.hid hA
        clear hI hA
        have ha0 : ¬ (a : Int) < 0 := by omega
        have ha1 : IntKind.u8.wrap (a : Int) = (a : Int) := u8_in _ (by omega) (by omega)
        obtain ⟨t, ht⟩ : ∃ t, t = j / 2 := ⟨_, rfl⟩
        obtain ⟨p, hp⟩ : ∃ p, p = j % 2 := ⟨_, rfl⟩
        have e3 : (j : Int).tmod 2 = (p : Int) := by rw [Int.tmod_eq_emod_of_nonneg (by omega)]; omega
        have e4 : (j : Int) % 2 = (p : Int) := by omega
        have Ha15 := Lib.hid ha15
        have HT := Lib.hid ht
        have HP := Lib.hid hp
        have ha16 : a < 16 := by omega
        clear ha15
        by_cases hp0 : p = 0
        · have q5 : ((p : Int) == 0) = true := by rw [beq_iff_eq]; omega
          have HP0 := Lib.hid hp0
          obtain ⟨x, hx⟩ : ∃ x, x = 16 * a := ⟨_, rfl⟩
          have hx1 : (a : Int) * 16 % 256 = (x : Int) := by omega
          have hx2 : (a : Int) * 16 = (x : Int) := by omega
          have hv : byteV (hiN s j) = .int .u8 (x : Int) := by
            unfold byteV hiN
            rw [List.getD, List.getElem?_eq_getElem ha, Option.getD_some, ← HA.out, ← hx, u8_lt _ (by omega)]
          have HV := Lib.hid hv
          have Hx := Lib.hid hx
          have hL : L = t := by have := Hj.out; omega
          subst hL
          clear hp ht hp0 hv hx
          have Hb3 := Lib.hid (show Below w.heap.size w (wr.alloc (.cells #[byteV (hiN s j)] 5)) from hb.alloc hb.size _)
          have HS2 := Lib.hid (show Sl (wr.alloc (.cells #[byteV (hiN s j)] 5)) (some ⟨wr.heap.size, 0, none⟩) ([hiN s j].map byteV) from (Blk.new wr 5 #[byteV (hiN s j)]).sl 0)
          have Ho3 := Lib.hid (Ho.out.alloc (.cells #[byteV (hiN s j)] 5))
          rw [HV.out] at Hb3 HS2 Ho3
          go_wp2_with (first | (go_at_call 57; refine (C1.out _).mono ?_; rintro e w' ⟨rfl, rfl⟩) | (at_builtin; refine wpList_app etByte rfl rfl rfl Ho3.out rfl (m := 1) (news := [hiN s j].map byteV) rfl HS2.out (byteV_one _) (by have := HT.out; omega) (by have h1 := Hb3.out.size; exact h1) ?_; intro v1 w1 ho1 hg1 _; have Ho1 := Lib.hid ho1; clear ho1; have Hg1 := Lib.hid hg1; clear hg1))
          go_roundg g
          case measure => omega
          case rel =>
            have h1 := HT.out; have h2 := HP.out; have h3 := HP0.out
            refine ⟨j + 1, L + 1, Lib.hid (by omega), by omega, rfl, ?_, below_app Hb3.out Ho3.out Hg1.out Hb3.out.size (Nat.le_refl _), Lib.hid ?_⟩
            · rw [unP_odd s j (by omega), List.map_append, ← h1]
              have h4 := Ho1.out
              rw [unP_even s j (by omega), ← h1] at h4
              exact h4
            · intro k hk
              by_cases hk1 : k < j
              · exact Hd.out k hk1
              · obtain rfl : k = j := by omega
                rw [List.getD, List.getElem?_eq_getElem ha, Option.getD_some, ← HA.out]; exact Nat.le_of_not_lt Ha15.out
        · have q5 : ((p : Int) == 0) = false := by rw [beq_eq_false_iff_ne]; omega
          have h2t : (j : Int) / 2 = (t : Int) := by omega
          have h2t' : (j : Int).tdiv 2 = (t : Int) := by rw [Int.tdiv_eq_ediv_of_nonneg (by omega)]; omega
          have hL : L = t + 1 := by have := Hj.out; omega
          subst hL
          obtain ⟨gB, cap, rfl, hcap1, hcap2, hgB⟩ := own_pos Ho.out (by omega)
          obtain ⟨i0, hi0⟩ : ∃ i0, i0 = j - 1 := ⟨_, rfl⟩
          have hji : j = i0 + 1 := by omega
          obtain ⟨b, hB⟩ : ∃ b, b = halfR (s.getD i0 0) := ⟨_, rfl⟩
          have hb15 : b ≤ 15 := by rw [hB]; exact Hd.out i0 (by omega)
          have hun : unP s j = unhexL s t ++ [hiN s i0] := by rw [hji, unP_odd s i0 (by omega)]; congr 2; omega
          have hun2 : unP s (j + 1) = unhexL s t ++ [pairN s t] := by rw [unP_even s (j + 1) (by omega), show (j + 1) / 2 = t + 1 by omega, unhexL_succ]
          have hh : (hiN s i0).toNat = 16 * b := by unfold hiN; rw [← hB, u8_lt _ (by omega)]
          have hpr : (pairN s t).toNat = 16 * b + a := by
            unfold pairN
            rw [show 2 * t = i0 by omega, ← hB, ← hji, List.getD, List.getElem?_eq_getElem ha, Option.getD_some, ← HA.out, u8_lt _ (by omega)]
          have ho := Ho.out
          rw [hun] at ho
          have hcell : wr.cell? ⟨gB, t, none⟩ = some (.int .u8 ((16 * b : Nat) : Int)) := by
            rw [ho.cellAt t (by omega), List.map_append, List.getElem?_append_right (by rw [List.length_map, unhexL_length]; exact Nat.le_refl _), List.length_map, unhexL_length, Nat.sub_self]
            show some (byteV (hiN s i0)) = _
            unfold byteV; rw [hh]
          have hfz := ho.frozenAt t
          have hor : bits .or .u8 (((16 * b : Nat)) : Int) (a : Int) = ((16 * b + a : Nat) : Int) := by
            rw [u8_or_nat (16 * b) a (by omega) (by omega), or_pair b (by omega) a (by omega)]
          have hstored := ho.stored t (.int .u8 ((16 * b + a : Nat) : Int))
          have e1 : ((unhexL s t ++ [hiN s i0]).map byteV).set t (.int .u8 ((16 * b + a : Nat) : Int)) = (unP s (j + 1)).map byteV := by
            have h1 := set_last (unhexL s t) (hiN s i0) (pairN s t)
            rw [unhexL_length] at h1
            rw [hun2, ← h1]
            unfold byteV; rw [hpr]
          rw [e1] at hstored
          have Hst := Lib.hid hstored
          have htl : (t : Int) < ((t + 1 : Nat) : Int) := by omega
          generalize 16 * b = y at hcell hor Hst
          generalize y + a = z at hor Hst
          have HT1 := Lib.hid hp0
          clear hp ht hp0 hji hi0 hB hb15 hun hun2 hh hpr ho hstored e1
          clear e1
          go_wp2_with (go_at_call 57; refine (C1.out _).mono ?_; rintro e w' ⟨rfl, rfl⟩)
          go_roundg g
          case measure => omega
          case rel =>
            have h1 := HT.out; have h2 := HP.out; have h3 := HT1.out
            refine ⟨j + 1, t + 1, Lib.hid (by omega), by omega, rfl, Hst.out.1, hb.setCell (p := ⟨gB, t, none⟩) hgB _, Lib.hid ?_⟩
            intro k hk
            by_cases hk1 : k < j
            · exact Hd.out k hk1
            · obtain rfl : k = j := by omega
              rw [List.getD, List.getElem?_eq_getElem ha, Option.getD_some, ← HA.out]; exact Nat.le_of_not_lt Ha15.out
end Go.Proofs.YthcbidbhkikhmaaDoor
