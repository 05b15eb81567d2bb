/- package bits: Pen.Put, Code, Bytes. -/
import Derived.Test.YtcojnigkgbmbmaaGreatDoorKPenW
namespace Go.Proofs.YtcojnigkgbmbmaaGreatDoor
open Go Go.RowKit
attribute [local go_sem] Oper.semAt_some
theorem digL_take (n b j : Nat) (hj : j < b) : (digL n b).take (j + 1) = (digL n b).take j ++ [if n / 2 ^ (b - 1 - j) % 2 = 0 then 48 else 49] := by
  rw [List.take_add_one]
  congr 1
  have : (digL n b)[j]? = some (if n / 2 ^ (b - 1 - j) % 2 = 0 then 48 else 49) := by
    unfold digL
    rw [List.getElem?_map, List.getElem?_range hj]
    rfl
  rw [this]
  rfl
theorem i64_and1 (a : Nat) (ha : a < 2 ^ 62) : bits .and .i64 (a : Int) 1 = ((a % 2 : Nat) : Int) := by
  show IntKind.i64.wrap ((BitVec.ofInt 64 (a : Int) &&& BitVec.ofInt 64 1).toNat : Int) = _
  have e1 : BitVec.ofInt 64 (a : Int) = BitVec.ofNat 64 a := by simp
  have e2 : BitVec.ofInt 64 1 = BitVec.ofNat 64 1 := rfl
  rw [e1, e2, BitVec.toNat_and, BitVec.toNat_ofNat, BitVec.toNat_ofNat, Nat.mod_eq_of_lt (by omega), Nat.mod_eq_of_lt (by decide), Nat.and_one_is_mod, IntKind.wrap_i64]
  omega
set_option maxRecDepth 100000 in
set_option maxHeartbeats 4000000 in
theorem pen_Put (w0 : World) (h : Nat) (L : List UInt8) (n b : Nat) (hn : n < 2 ^ b) (hb : b ≤ 32) (hl : L.length + b ≤ 16777216) (hh : w0.heap.size ≤ h) (w : World) (hp : PenW w0 h L w) :
    Calls Tryz.prog 30 #[.pointer (some ⟨h, 0, none⟩), .int .i64 (n : Int), .int .i64 (b : Int)] w fun e w' => e = .returned (.int .i64 0) ∧ PenW w0 h (L ++ digL n b) w' := by
  obtain ⟨v, hc⟩ := hp
  have HP := Lib.hid (show PenW w0 h L w from ⟨v, hc⟩)
  have C1 := Lib.hid (pen_none h v (L.length : Int) w hc.2.1.head)
  have C2 := Lib.hid (pen_full h v (L.length : Int) (b : Int) w hc.2.1.head (by omega) (by omega) (by omega))
  have HL := Lib.hid hl
  have hsh : ((n : Int) / 2 ^ b) = 0 := by
    have : n / 2 ^ b = 0 := Nat.div_eq_of_lt hn
    exact_mod_cast this
  have k1 : ¬ ((b : Int) < 0) := by omega
  have k2 : ¬ ((32 : Int) < (b : Int)) := by omega
  have k3 : ¬ ((n : Int) < 0) := by omega
  have k4 : (0 : Int) ≤ (b : Int) := by omega
  have k5 : (b : Int) ≤ 64 := by omega
  have k6 : (b : Int).toNat = b := by omega
  have k7 : IntKind.i64.wrap ((b : Int) - 1) = (b : Int) - 1 := by rw [IntKind.wrap_i64]; omega
  have HN := Lib.hid hn
  clear hc hl hn
  go_enter Tryz.func30, Tryz.ntmps30
  go_wp2_with (first | (go_at_call 66; refine C1.out.mono ?_; rintro e w2 ⟨rfl, rfl⟩) | (go_at_call 67; refine C2.out.mono ?_; rintro e w2 ⟨rfl, rfl⟩))
  clear k1 k2 hsh k4 k5 k6
  go_loopg [7] b (fun gk i => fun wr => ∃ (j : Nat), j + gk = b ∧ i = .int .i64 ((gk : Int) - 1) ∧ Hid (PenW w0 h (L ++ (digL n b).take j) wr))
  case atStart => exact ⟨0, by omega, rfl, Lib.hid (by rw [List.take_zero, List.append_nil]; exact HP.out)⟩
  case round =>
    obtain ⟨j, hj, rfl, HJ⟩ := hrel
    cases gk with
    | zero =>
      have hjb : j = b := by omega
      have HE := Lib.hid hjb
      clear hj hjb
      go_wp2_with fail
      go_ret
      refine ⟨rfl, ?_⟩
      have h1 := HJ.out
      rw [HE.out, List.take_of_length_le (by rw [digL_len]; exact Nat.le_refl _)] at h1
      exact h1
    | succ g =>
      have hg1 : ((g + 1 : Nat) : Int) - 1 = (g : Int) := by omega
      have hg0 : (0 : Int) ≤ (g : Int) := by omega
      have hg64 : (g : Int) ≤ 64 := by omega
      have hgn : (g : Int).toNat = g := by omega
      have hgg : ¬ ((g : Int) < 0) := by omega
      obtain ⟨q, hq⟩ : ∃ q, n / 2 ^ g = q := ⟨_, rfl⟩
      have hqi : ((n : Int) / 2 ^ g) = (q : Int) := by rw [← hq]; exact_mod_cast rfl
      have hq62 : q < 2 ^ 62 := by
        have h1 : q ≤ n := by rw [← hq]; exact Nat.div_le_self _ _
        have h2 : (2 : Nat) ^ b ≤ 2 ^ 32 := Nat.pow_le_pow_right (by decide) hb
        have h3 := HN.out
        have h4 : (2 : Nat) ^ 32 < 2 ^ 62 := by decide
        omega
      have hand := i64_and1 q hq62
      obtain ⟨x, hx⟩ : ∃ x, q % 2 = x := ⟨_, rfl⟩
      rw [hx] at hand
      have hx2 : x < 2 := by omega
      have CW := Lib.hid (pen_write w0 h (L ++ (digL n b).take j) x hx2 (by rw [List.length_append, List.length_take, digL_len]; have := HL.out; omega) hh wr HJ.out)
      have hgb : b - 1 - j = g := by omega
      have HT : Hid ((L ++ (digL n b).take j) ++ [if x = 0 then (48 : UInt8) else 49] = L ++ (digL n b).take (j + 1)) := Lib.hid (by
        rw [digL_take n b j (by omega), List.append_assoc, hgb, hq, hx])
      have hwg : IntKind.i64.wrap ((g : Int) - 1) = (g : Int) - 1 := by rw [IntKind.wrap_i64]; omega
      have HJJ := Lib.hid hj
      rw [hg1]
      clear hj hq hx hq62 hgb hg1
      go_wp2_with (go_at_call 68; refine CW.out.mono ?_; rintro e w2 ⟨⟨u, rfl⟩, hpw, _⟩; have HPW := Lib.hid hpw; clear hpw)
      go_roundg g
      case measure => omega
      case rel => exact ⟨j + 1, by have := HJJ.out; omega, rfl, Lib.hid (by rw [← HT.out]; exact HPW.out)⟩
set_option maxRecDepth 100000 in
theorem slices_Clone (A : Option Addr) (n c : Nat) (l : List UInt8) (w : World) (hA : Sl w A (l.map byteV)) (hn : l.length = n) (hsz : n ≤ 2 ^ 40) (hc0 : A = none → c = 0) :
    Calls Tryz.prog 69 #[.slice A n c] w fun e w' => (∃ A' c', e = .returned (.slice A' n c') ∧ n ≤ c' ∧ Sl w' A' (l.map byteV)) ∧ Below w.heap.size w w' := by
  have HA := Lib.hid hA; have HN := Lib.hid hn
  cases A with
  | none =>
    have hl : l = [] := by
      cases l with
      | nil => rfl
      | cons b l =>
        obtain ⟨ad, e, _⟩ := hA 0 (byteV b) rfl
        cases e
    subst hl
    have hn0 : n = 0 := hn.symm
    subst hn0
    have hc := hc0 rfl
    subst hc
    clear hA hn hc0
    have heq : ∀ W : World, Sem.run Tryz.prog (binOp .eql 22 (.slice none 0 0) (.slice none 0 0)) W = .ok (.bool true) W := fun W => by kernel_rfl
    go_enter Tryz.func69, Tryz.ntmps69
    go_wp2_with fail
    go_ret
    exact ⟨⟨_, _, rfl, Nat.le_refl _, fun i v h => by simp at h⟩, Below.refl _ _⟩
  | some a =>
    clear hA hn hc0
    have heq : ∀ W : World, Sem.run Tryz.prog (binOp .eql 22 (.slice (some a) n c) (.slice none 0 0)) W = .ok (.bool false) W := fun W => rfl
    have hlit := World.ownsRow_lit (base := w.heap.size) (e := 5) (size := 1) w #[] 0 (Nat.le_refl _) (Nat.zero_le _) rfl
    have hb0 : Below w.heap.size w (w.alloc (.cells #[] 5)) := (Below.refl _ w).alloc (Nat.le_refl _) _
    have HLI := Lib.hid hlit; have HB0 := Lib.hid hb0
    have HA2 := Lib.hid (HA.out.below hb0)
    clear hlit hb0
    go_enter Tryz.func69, Tryz.ntmps69
    go_wp2_with (at_builtin; refine wpList_app etByte rfl rfl rfl HLI.out rfl (m := n) (news := l.map byteV) (by rw [List.length_map, HN.out, Nat.mul_one]) HA2.out ?c2 ?c4 ?c5 ?_)
    case c2 => intro u hu; rfl
    case c4 => omega
    intro v5 W5 h2 h3 _
    obtain ⟨A5, c5, hv5, hS5⟩ := own_sl h2
    subst hv5
    have hcap : n ≤ c5 := by
      rcases h2.2 with ⟨h7, h8⟩ | ⟨g7, cap7, cur7, h7, _, _, h8, _⟩
      · omega
      · have := (Value.slice.inj h7).2.2; omega
    have hbb := below_grown' HB0.out h3 (fun r e => by cases e; exact Nat.le_refl _) HB0.out.size
    have HS5 := Lib.hid hS5; have HBB := Lib.hid hbb
    clear h2 h3 hS5 hbb
    go_wp2_with fail
    go_ret
    exact ⟨⟨A5, c5, rfl, hcap, by simpa using HS5.out⟩, HBB.out⟩
theorem pen_Bytes (w0 : World) (h : Nat) (L : List UInt8) (hl : L.length ≤ 16777216) (w : World) (hp : PenW w0 h L w) :
    Calls Tryz.prog 29 #[.pointer (some ⟨h, 0, none⟩)] w fun e w' => (∃ A' c', e = .returned (.slice A' (packL L).length c') ∧ (packL L).length ≤ c' ∧ Sl w' A' ((packL L).map byteV)) ∧ Below w.heap.size w w' := by
  obtain ⟨v, hc⟩ := hp
  have hn : (packL L).length ≤ 2 ^ 40 := by rw [packL_length]; omega
  obtain ⟨A, c, hv, hS⟩ := own_sl hc.2.2.head
  dsimp only at hv hS
  subst hv
  have hc0 : A = none → c = 0 := fun e => by
    subst e
    rcases hc.2.2.head.2 with ⟨h1, _⟩ | ⟨g, cap, cur, h1, _⟩
    · exact (Value.slice.inj h1).2.2
    · have := (Value.slice.inj h1).1; cases this
  have C1 := Lib.hid (pen_none h _ (L.length : Int) w hc.2.1.head)
  have C2 := Lib.hid (slices_Clone A (packL L).length c (packL L) w hS rfl hn hc0)
  have z0 := hc.2.1.head.cell 0
  (try dsimp only at z0)
  clear hc hS hn hc0
  generalize packL L = M at *
  generalize M.length = n at *
  go_enter Tryz.func29, Tryz.ntmps29
  go_wp2_with (first | (go_at_call 66; refine C1.out.mono ?_; rintro e w2 ⟨rfl, rfl⟩) | (go_at_call 69; refine C2.out.mono ?_; rintro e w2 ⟨⟨A', c', rfl, hcp, hs⟩, hb⟩; have HS := Lib.hid hs; have HB := Lib.hid hb; clear hs hb z0))
  go_ret
  exact ⟨⟨A', c', rfl, hcp, HS.out⟩, HB.out⟩
end Go.Proofs.YtcojnigkgbmbmaaGreatDoor
