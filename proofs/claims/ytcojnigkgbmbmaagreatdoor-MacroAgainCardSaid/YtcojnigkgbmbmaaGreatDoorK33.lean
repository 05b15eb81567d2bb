/- BPut -/
import Derived.Test.YtcojnigkgbmbmaaGreatDoorK17
import Derived.Test.YtcojnigkgbmbmaaGreatDoorK25
import Derived.Test.YtcojnigkgbmbmaaGreatDoorK24
namespace Go.Proofs.YtcojnigkgbmbmaaGreatDoor
open Go Go.RowKit
attribute [local go_sem] Oper.semAt_some
theorem spread_ok : ∀ (l : List (Int × Int)) (a : Int), 0 ≤ a → a ≤ 64 → spreadP l a = 0 → (l.length : Int) + a ≤ 64 ∧ ∀ p ∈ l, pairB p = true
  | [], a, h0, h1, _ => ⟨by simpa using h1, fun p hp => by cases hp⟩
  | p :: l, a, h0, h1, h => by
    rw [spread_cons] at h
    split at h
    · omega
    · rename_i c1
      split at h
      · omega
      · rename_i c2
        simp only [Bool.or_eq_true, Bool.not_eq_true', beq_iff_eq, decide_eq_true_eq, not_or, Bool.and_eq_false_iff, decide_eq_false_iff_not] at c1 c2
        obtain ⟨i1, i2⟩ := spread_ok l (a + p.1 + 1) (by omega) (by omega) h
        refine ⟨by simp only [List.length_cons]; omega, fun q hq => ?_⟩
        rcases List.mem_cons.1 hq with rfl | hq
        · simp only [pairB, Bool.and_eq_true, decide_eq_true_eq, bne_iff_ne, ne_eq]
          omega
        · exact i2 q hq
theorem bchk_ok {x : BlkM} {intra : Bool} (h : bchkP x intra = 0) : spreadP x.l (frstP intra) = 0 ∧ (intra = true → 1 ≤ x.dc ∧ x.dc ≤ 255) := by
  unfold bchkP at h
  split at h
  · omega
  · rename_i c1
    split at h
    · omega
    · refine ⟨h, fun hi => ?_⟩
      subst hi
      simp only [Bool.true_and, Bool.or_eq_true, beq_iff_eq, decide_eq_true_eq, not_or] at c1
      omega
theorem cputP_len (p : Int × Int) (f : Bool) : (cputP p f).length ≤ 21 := by
  unfold cputP
  split
  · simp [escP, digL, escC]
  · have h := shortC_len p (tabL f) (tabL_len f)
    rw [List.length_append]
    have h2 : (if p.2 < 0 then [(49 : UInt8)] else [48]).length = 1 := by split <;> rfl
    omega
theorem dig_take (d j : Nat) (h : j < 8) : (digL d 8).take (j + 1) = (digL d 8).take j ++ [if d / 2 ^ (7 - j) % 2 = 0 then 48 else 49] := by
  rw [List.take_add_one]
  congr 1
  have hh : (digL d 8)[j]? = some (if d / 2 ^ (7 - j) % 2 = 0 then 48 else 49) := by
    unfold digL
    rw [List.getElem?_map, List.getElem?_range h]
    rfl
  rw [hh]
  rfl
theorem dig_bit (d j : Nat) : (48 : Int) + ((d / 2 ^ j % 2 : Nat) : Int) = (((if d / 2 ^ j % 2 = 0 then 48 else 49 : UInt8).toNat : Nat) : Int) := by
  have h : d / 2 ^ j % 2 = 0 ∨ d / 2 ^ j % 2 = 1 := by omega
  rcases h with h | h <;> rw [h] <;> rfl
theorem bld_below' {T e : TypeId} {B b : Nat} {p : Value} {cs : List Value} {w w' : World} (h : Lib.BuilderAt T e B b p cs w) (hb : Below w.heap.size w w') : Lib.BuilderAt T e B b p cs w' := by
  have hl := h.lt
  obtain ⟨h1, v, hbk, ho, hne⟩ := h
  exact ⟨h1, v, (hb.block b hl).trans hbk, own_below ho hb (Nat.le_refl _), hne⟩
theorem bld_below {T e : TypeId} {B b : Nat} {cs : List Value} {w w' : World} (h : Lib.IsBuilder T e B b cs w) (hb : Below w.heap.size w w') : Lib.IsBuilder T e B b cs w' := by
  rcases h with h | h
  · exact .inl (bld_below' h hb)
  · exact .inr (bld_below' h hb)
theorem cons_one {w W W' : World} {p : CellF} {B : Nat} (h : Cons w [p] [] W) (hb : Below B W W') (h1 : w.heap.size ≤ B) (h2 : p.1 < B) : Cons w [p] [] W' :=
  ⟨h.1.trans (hb.mono h1), CellsAt.cons (h.2.1.head.below hb h2) (cellsAt_nil _), rowsAt_nil _⟩
set_option maxRecDepth 100000 in
set_option maxHeartbeats 8000000 in
theorem block_Put (x : BlkM) (A : Option Addr) (n c : Nat) (intra : Bool) (w : World) (hS : Sl w A (rowC pairC x.l)) (hn : x.l.length = n) (hc : bchkP x intra = 0) (hT : Tz w) (hs : Ts w) :
    Calls Tryz.prog 52 #[.agg #[.int .i64 x.dc, .slice A n c], .bool intra] w fun e w' => e = .returned (.tuple #[.string (bs (bputP x intra)), .int .i64 0]) ∧ Below w.heap.size w w' := by
  obtain ⟨hsp, hdc⟩ := bchk_ok hc
  have hfr : 0 ≤ frstP intra ∧ frstP intra ≤ 1 := by cases intra <;> decide
  obtain ⟨hln, hpr⟩ := spread_ok x.l (frstP intra) hfr.1 (by omega) hsp
  have hn64 : n ≤ 64 := by omega
  have C1 := Lib.hid (fun W hW => block_Check x A n c intra W hW hn (by omega))
  rw [hc] at C1
  obtain ⟨BP, hbp⟩ : ∃ BP, bputP x intra = BP := ⟨_, rfl⟩
  rw [hbp]
  unfold bputP at hbp
  obtain ⟨dc, l⟩ := x
  dsimp only at *
  have HS := Lib.hid hS; have HN := Lib.hid hn; have HT := Lib.hid hT; have Hs := Lib.hid hs; have HPR := Lib.hid hpr; have HBP := Lib.hid hbp
  clear hS hn hT hs hpr hbp hc hsp hfr hln
  have hX : Blk (w.alloc (.cells #[.int .i64 dc, .slice A n c] 81)) w.heap.size 81 #[.int .i64 dc, .slice A n c] := Blk.new w _ _
  have HX := Lib.hid hX
  have HB0 := Lib.hid ((Below.refl w.heap.size w).alloc (Nat.le_refl _) (.cells #[.int .i64 dc, .slice A n c] 81))
  have HS0 := Lib.hid (HS.out.below HB0.out)
  clear hX
  cases intra with
  | false =>
    simp only [Bool.not_false, Bool.false_eq_true, if_false, List.nil_append] at HBP
    clear hdc
    go_enter Tryz.func52, Tryz.ntmps52
    go_wp2_with (go_at_call 63; refine (C1.out _ HS0.out).mono ?_; rintro e w2 ⟨rfl, hb2⟩; have HX2 := Lib.hid (HX.out.below hb2 HX.out.lt); have HB2 := Lib.hid (HB0.out.trans (hb2.mono HB0.out.size)); clear hb2; have hz := HX2.out.alloc (.cells #[.pointer none, .slice none 0 0] 123); have x0 := hz.cell 0; have x1 := hz.cell 1; clear hz)
    obtain ⟨b, hb⟩ : ∃ b, w2.heap.size = b := ⟨_, rfl⟩
    have hB0 : Cons w [(w.heap.size, 81, #[.int .i64 dc, .slice A n c])] [] (w2.alloc (.cells #[.pointer none, .slice none 0 0] 123)) := ⟨HB2.out.alloc HB2.out.size _, CellsAt.cons (HX2.out.alloc _) (cellsAt_nil _), rowsAt_nil _⟩
    have hI0 : Lib.IsBuilder 123 5 b b [] (w2.alloc (.cells #[.pointer none, .slice none 0 0] 123)) := hb ▸ bld_new w2
    have hs0 : (w2.alloc (.cells #[.pointer none, .slice none 0 0] 123)).heap.size = b + 1 := by rw [World.size_alloc, hb]
    have hwb : w.heap.size < b := hb ▸ HX2.out.lt
    rw [hb]
    clear x0 x1
    generalize w2.alloc (.cells #[.pointer none, .slice none 0 0] 123) = W0 at hB0 hI0 hs0 ⊢
    have HC0 := Lib.hid hB0; have HI0 := Lib.hid hI0; have HZ0 := Lib.hid hs0; have HWB := Lib.hid hwb
    clear hb hB0 hI0 hs0 hwb HX2 HB2 HX HB0 HS0 C1
    go_loopg [35] n (fun g v => fun wr => ∃ (j : Nat) (acc : List UInt8), j + g = n ∧ v = .int .i64 (j : Int) ∧ acc.length ≤ 8 + 21 * j ∧ Hid (acc ++ (cputL (l.drop j) (if j = 0 then true else false) ++ endC) = BP) ∧ Hid (Lib.IsBuilder 123 5 b b (acc.map byteV) wr) ∧ Hid (Cons w [(w.heap.size, 81, #[.int .i64 dc, .slice A n c])] [] wr) ∧ Hid (b < wr.heap.size))
    case atStart => exact ⟨0, [], by omega, rfl, by simp, Lib.hid (by rw [← HBP.out]; simp), HI0, HC0, Lib.hid (by rw [HZ0.out]; omega)⟩
    case round =>
      obtain ⟨j, acc, hj, rfl, hacc, HA, HI, HC, HZ⟩ := hrel
      cases gk with
      | zero =>
        have hjn : j = n := by omega
        subst hjn
        have hlt : ¬ ((j : Int) < (j : Int)) := by omega
        have FIN : Hid (Calls Tryz.prog 98 #[.pointer (some ⟨b, 0, none⟩)] wr fun e w' => e = .returned (.string (bs acc)) ∧ Below b wr w') := Lib.hid (Tryz.Builder_String_any b b acc wr HI.out (by have := HZ.out; omega))
        have hl1 : acc.length ≤ 1352 := by omega
        have hl2 : endC.length = 2 := rfl
        have hl3 : acc.length + endC.length ≤ 1354 := by omega
        have HE := Lib.hid (show acc ++ endC = BP by have h := HA.out; rw [List.drop_eq_nil_of_le (by rw [HN.out]; omega)] at h; exact h)
        go_wp2_with (first | (go_at_call 98; refine FIN.out.mono ?_; rintro e w' ⟨rfl, hb1⟩; have HB1 := Lib.hid hb1; clear hb1) | (go_at_call 99; refine (coeff_End _).mono ?_; rintro e w' ⟨rfl, rfl⟩))
        go_ret2
        refine ⟨?_, HC.out.1.trans (HB1.out.mono (by have := HZ.out; have := HWB.out; omega))⟩
        rw [← HE.out, ← bs_append]; rfl
      | succ g =>
        have hlt : ((j : Int) < (n : Int)) := by omega
        have hjl : j < l.length := by rw [HN.out]; omega
        obtain ⟨ad, rfl, hab, c0, c1⟩ := sl_pair (HS.out.below HC.out.1) j hjl
        have HPJ := Lib.hid (HPR.out l[j] (List.getElem_mem _))
        have HD := Lib.hid (List.drop_eq_getElem_cons hjl)
        obtain ⟨⟨p1, p2⟩, hpe⟩ : ∃ p, l[j] = p := ⟨_, rfl⟩
        rw [hpe] at c0 c1 HPJ HD
        dsimp only at c0 c1
        have hw1 : IntKind.i64.wrap ((j : Int) + 1) = (j : Int) + 1 := by rw [IntKind.wrap_i64]; omega
        clear hpe hjl
        have HACC := Lib.hid hacc
        have HJ := Lib.hid hj
        obtain ⟨g0, hg0⟩ : ∃ g0, wr.heap.size = g0 := ⟨_, rfl⟩
        have HT1 := Lib.hid (HT.out.below (HC.out.1.alloc HC.out.1.size (.cells #[.int .i64 p1, .int .i64 p2] 109)))
        have Hs1 := Lib.hid (Hs.out.below (HC.out.1.alloc HC.out.1.size (.cells #[.int .i64 p1, .int .i64 p2] 109)))
        have CP := Lib.hid (fun f => coeff_Put (p1, p2) f _ HT1.out Hs1.out HPJ.out)
        dsimp only at CP
        have HW := Lib.hid (fun l2 w3 h1 h2 h3 => bld_writes b b (acc.map byteV) l2 w3 h1 h2 h3)
        obtain ⟨DJ, hdj⟩ : ∃ DJ, l.drop (j + 1) = DJ := ⟨_, rfl⟩
        rw [hdj] at HD
        have HDJ := Lib.hid hdj
        clear hdj hacc hj
        rcases Nat.eq_zero_or_pos j with hj0 | hj0
        · have HF := Lib.hid (cputP_len (p1, p2) true)
          have hj1 : ((j : Int) == 0) = true := by simp; omega
          have HJ0 := Lib.hid hj0
          clear hj0
          have HA2 : Hid (acc ++ cputP (p1, p2) true ++ (cputL DJ (if j + 1 = 0 then true else false) ++ endC) = BP) := Lib.hid (by
            have h := HA.out
            rw [HD.out, if_pos HJ0.out] at h
            rw [if_neg (by omega), ← h]
            show _ = acc ++ (cputP (p1, p2) true ++ cputL DJ false ++ endC)
            simp only [List.append_assoc])
          obtain ⟨cp, hcp⟩ : ∃ cp, cputP (p1, p2) true = cp := ⟨_, rfl⟩
          have CPF := Lib.hid (CP.out true)
          rw [hcp] at HF HA2 CPF
          clear hcp HA HD
          have HLEN := Lib.hid (show (acc.map byteV).length + cp.length ≤ 140737488355328 by rw [List.length_map]; have := HF.out; have := HACC.out; omega)
          go_wp2_with (first | (go_at_call 96; refine CPF.out.mono ?_; rintro e w3 ⟨rfl, hb3⟩; have HI3 := Lib.hid (bld_below (bld_below HI.out ((Below.refl _ _).alloc (Nat.le_refl _) _)) hb3); have HC3 := Lib.hid (cons_below (cons_alloc HC.out _) hb3); have HZ3 := Lib.hid (show b < w3.heap.size by have := HZ.out; have := hb3.size; simp at this; omega); clear hb3) | (go_at_call 97; refine (bld_writes b b _ _ _ HI3.out HLEN.out (Nat.le_of_lt HZ3.out)).mono ?_; rintro e w4 ⟨rfl, hI4, hb4⟩; have HI4 := Lib.hid hI4; have HC4 := Lib.hid (cons_one HC3.out hb4 (Nat.le_of_lt HWB.out) HWB.out); have HZ4 := Lib.hid (Nat.lt_of_lt_of_le HZ3.out hb4.size); clear hI4 hb4))
          go_roundg g
          case measure => omega
          case rel =>
            refine ⟨j + 1, acc ++ cp, by have := HJ.out; omega, rfl, by rw [List.length_append]; have := HF.out; have := HACC.out; omega, ?_, Lib.hid (by rw [List.map_append]; exact HI4.out), HC4, HZ4⟩
            rw [HDJ.out]
            exact HA2
        · have HF := Lib.hid (cputP_len (p1, p2) false)
          have hj1 : ((j : Int) == 0) = false := by simp; omega
          have HJ0 := Lib.hid hj0
          clear hj0
          have HA2 : Hid (acc ++ cputP (p1, p2) false ++ (cputL DJ (if j + 1 = 0 then true else false) ++ endC) = BP) := Lib.hid (by
            have h := HA.out
            rw [HD.out, if_neg (by have := HJ0.out; omega)] at h
            rw [if_neg (by omega), ← h]
            show _ = acc ++ (cputP (p1, p2) false ++ cputL DJ false ++ endC)
            simp only [List.append_assoc])
          obtain ⟨cp, hcp⟩ : ∃ cp, cputP (p1, p2) false = cp := ⟨_, rfl⟩
          have CPF := Lib.hid (CP.out false)
          rw [hcp] at HF HA2 CPF
          clear hcp HA HD
          have HLEN := Lib.hid (show (acc.map byteV).length + cp.length ≤ 140737488355328 by rw [List.length_map]; have := HF.out; have := HACC.out; omega)
          go_wp2_with (first | (go_at_call 96; refine CPF.out.mono ?_; rintro e w3 ⟨rfl, hb3⟩; have HI3 := Lib.hid (bld_below (bld_below HI.out ((Below.refl _ _).alloc (Nat.le_refl _) _)) hb3); have HC3 := Lib.hid (cons_below (cons_alloc HC.out _) hb3); have HZ3 := Lib.hid (show b < w3.heap.size by have := HZ.out; have := hb3.size; simp at this; omega); clear hb3) | (go_at_call 97; refine (bld_writes b b _ _ _ HI3.out HLEN.out (Nat.le_of_lt HZ3.out)).mono ?_; rintro e w4 ⟨rfl, hI4, hb4⟩; have HI4 := Lib.hid hI4; have HC4 := Lib.hid (cons_one HC3.out hb4 (Nat.le_of_lt HWB.out) HWB.out); have HZ4 := Lib.hid (Nat.lt_of_lt_of_le HZ3.out hb4.size); clear hI4 hb4))
          go_roundg g
          case measure => omega
          case rel =>
            refine ⟨j + 1, acc ++ cp, by have := HJ.out; omega, rfl, by rw [List.length_append]; have := HF.out; have := HACC.out; omega, ?_, Lib.hid (by rw [List.map_append]; exact HI4.out), HC4, HZ4⟩
            rw [HDJ.out]
            exact HA2
  | true =>
    obtain ⟨hd1, hd2⟩ := hdc rfl
    obtain ⟨d, rfl⟩ : ∃ d : Nat, dc = (d : Int) := ⟨dc.toNat, by omega⟩
    simp only [Bool.not_true, if_true, Int.toNat_natCast] at HBP
    go_enter Tryz.func52, Tryz.ntmps52
    go_wp2_with (go_at_call 63; refine (C1.out _ HS0.out).mono ?_; rintro e w2 ⟨rfl, hb2⟩; have HX2 := Lib.hid (HX.out.below hb2 HX.out.lt); have HB2 := Lib.hid (HB0.out.trans (hb2.mono HB0.out.size)); clear hb2; have hz := HX2.out.alloc (.cells #[.pointer none, .slice none 0 0] 123); have x0 := hz.cell 0; have x1 := hz.cell 1; clear hz)
    obtain ⟨b, hb⟩ : ∃ b, w2.heap.size = b := ⟨_, rfl⟩
    have hB0 : Cons w [(w.heap.size, 81, #[.int .i64 (d : Int), .slice A n c])] [] (w2.alloc (.cells #[.pointer none, .slice none 0 0] 123)) := ⟨HB2.out.alloc HB2.out.size _, CellsAt.cons (HX2.out.alloc _) (cellsAt_nil _), rowsAt_nil _⟩
    have hI0 : Lib.IsBuilder 123 5 b b [] (w2.alloc (.cells #[.pointer none, .slice none 0 0] 123)) := hb ▸ bld_new w2
    have hs0 : (w2.alloc (.cells #[.pointer none, .slice none 0 0] 123)).heap.size = b + 1 := by rw [World.size_alloc, hb]
    have hwb : w.heap.size < b := hb ▸ HX2.out.lt
    rw [hb]
    clear x0 x1
    generalize w2.alloc (.cells #[.pointer none, .slice none 0 0] 123) = W0 at hB0 hI0 hs0 ⊢
    have HC0 := Lib.hid hB0; have HI0 := Lib.hid hI0; have HZ0 := Lib.hid hs0; have HWB := Lib.hid hwb
    clear hb hB0 hI0 hs0 hwb HX2 HB2 HX HB0 HS0 C1
    go_loopg [8] 8 (fun g v => fun wr => ∃ j : Nat, j + g = 8 ∧ v = .int .i64 (7 - (j : Int)) ∧ Hid (Lib.IsBuilder 123 5 b b (((digL d 8).take j).map byteV) wr) ∧ Hid (Cons w [(w.heap.size, 81, #[.int .i64 (d : Int), .slice A n c])] [] wr) ∧ Hid (b < wr.heap.size))
    case atStart => exact ⟨0, by omega, rfl, HI0, HC0, Lib.hid (by rw [HZ0.out]; omega)⟩
    case round =>
      obtain ⟨j, hj, rfl, HI1, HC1, HZ1⟩ := hrel
      have hs := HC1.out.2.1.head
      dsimp only at hs
      have x0 := hs.cell 0; have x1 := hs.cell 1
      clear hs
      cases gk with
      | zero =>
        obtain rfl : j = 8 := by omega
        have hlt : ¬ (0 ≤ 7 - ((8 : Nat) : Int)) := by omega
        go_wp2_with fail
        have HI1 : Hid (Lib.IsBuilder 123 5 b b ((digL d 8).map byteV) wr) := Lib.hid (by have h := HI1.out; rwa [List.take_of_length_le (by simp [digL])] at h)
        clear x0 x1
        go_loopg [35] n (fun g v => fun wr => ∃ (j : Nat) (acc : List UInt8), j + g = n ∧ v = .int .i64 (j : Int) ∧ acc.length ≤ 8 + 21 * j ∧ Hid (acc ++ (cputL (l.drop j) (if j = 0 then false else false) ++ endC) = BP) ∧ Hid (Lib.IsBuilder 123 5 b b (acc.map byteV) wr) ∧ Hid (Cons w [(w.heap.size, 81, #[.int .i64 (d : Int), .slice A n c])] [] wr) ∧ Hid (b < wr.heap.size))
        case atStart => exact ⟨0, digL d 8, by omega, rfl, by simp [digL], Lib.hid (by rw [← HBP.out]; simp), HI1, HC1, HZ1⟩
        case round =>
          obtain ⟨j, acc, hj, rfl, hacc, HA, HI, HC, HZ⟩ := hrel
          cases gk with
          | zero =>
            have hjn : j = n := by omega
            subst hjn
            have hlt : ¬ ((j : Int) < (j : Int)) := by omega
            have FIN : Hid (Calls Tryz.prog 98 #[.pointer (some ⟨b, 0, none⟩)] wr fun e w' => e = .returned (.string (bs acc)) ∧ Below b wr w') := Lib.hid (Tryz.Builder_String_any b b acc wr HI.out (by have := HZ.out; omega))
            have hl1 : acc.length ≤ 1352 := by omega
            have hl2 : endC.length = 2 := rfl
            have hl3 : acc.length + endC.length ≤ 1354 := by omega
            have HE := Lib.hid (show acc ++ endC = BP by have h := HA.out; rw [List.drop_eq_nil_of_le (by rw [HN.out]; omega)] at h; exact h)
            go_wp2_with (first | (go_at_call 98; refine FIN.out.mono ?_; rintro e w' ⟨rfl, hb1⟩; have HB1 := Lib.hid hb1; clear hb1) | (go_at_call 99; refine (coeff_End _).mono ?_; rintro e w' ⟨rfl, rfl⟩))
            go_ret2
            refine ⟨?_, HC.out.1.trans (HB1.out.mono (by have := HZ.out; have := HWB.out; omega))⟩
            rw [← HE.out, ← bs_append]; rfl
          | succ g =>
            have hlt : ((j : Int) < (n : Int)) := by omega
            have hjl : j < l.length := by rw [HN.out]; omega
            obtain ⟨ad, rfl, hab, c0, c1⟩ := sl_pair (HS.out.below HC.out.1) j hjl
            have HPJ := Lib.hid (HPR.out l[j] (List.getElem_mem _))
            have HD := Lib.hid (List.drop_eq_getElem_cons hjl)
            obtain ⟨⟨p1, p2⟩, hpe⟩ : ∃ p, l[j] = p := ⟨_, rfl⟩
            rw [hpe] at c0 c1 HPJ HD
            dsimp only at c0 c1
            have hw1 : IntKind.i64.wrap ((j : Int) + 1) = (j : Int) + 1 := by rw [IntKind.wrap_i64]; omega
            clear hpe hjl
            have HACC := Lib.hid hacc
            have HJ := Lib.hid hj
            obtain ⟨g0, hg0⟩ : ∃ g0, wr.heap.size = g0 := ⟨_, rfl⟩
            have HT1 := Lib.hid (HT.out.below (HC.out.1.alloc HC.out.1.size (.cells #[.int .i64 p1, .int .i64 p2] 109)))
            have Hs1 := Lib.hid (Hs.out.below (HC.out.1.alloc HC.out.1.size (.cells #[.int .i64 p1, .int .i64 p2] 109)))
            have CP := Lib.hid (fun f => coeff_Put (p1, p2) f _ HT1.out Hs1.out HPJ.out)
            dsimp only at CP
            have HW := Lib.hid (fun l2 w3 h1 h2 h3 => bld_writes b b (acc.map byteV) l2 w3 h1 h2 h3)
            obtain ⟨DJ, hdj⟩ : ∃ DJ, l.drop (j + 1) = DJ := ⟨_, rfl⟩
            rw [hdj] at HD
            have HDJ := Lib.hid hdj
            clear hdj hacc hj
            rcases Nat.eq_zero_or_pos j with hj0 | hj0
            · have HF := Lib.hid (cputP_len (p1, p2) false)
              have hj1 : ((j : Int) == 0) = true := by simp; omega
              have HJ0 := Lib.hid hj0
              clear hj0
              have HA2 : Hid (acc ++ cputP (p1, p2) false ++ (cputL DJ (if j + 1 = 0 then false else false) ++ endC) = BP) := Lib.hid (by
                have h := HA.out
                rw [HD.out, if_pos HJ0.out] at h
                rw [if_neg (by omega), ← h]
                show _ = acc ++ (cputP (p1, p2) false ++ cputL DJ false ++ endC)
                simp only [List.append_assoc])
              obtain ⟨cp, hcp⟩ : ∃ cp, cputP (p1, p2) false = cp := ⟨_, rfl⟩
              have CPF := Lib.hid (CP.out false)
              rw [hcp] at HF HA2 CPF
              clear hcp HA HD
              have HLEN := Lib.hid (show (acc.map byteV).length + cp.length ≤ 140737488355328 by rw [List.length_map]; have := HF.out; have := HACC.out; omega)
              go_wp2_with (first | (go_at_call 96; refine CPF.out.mono ?_; rintro e w3 ⟨rfl, hb3⟩; have HI3 := Lib.hid (bld_below (bld_below HI.out ((Below.refl _ _).alloc (Nat.le_refl _) _)) hb3); have HC3 := Lib.hid (cons_below (cons_alloc HC.out _) hb3); have HZ3 := Lib.hid (show b < w3.heap.size by have := HZ.out; have := hb3.size; simp at this; omega); clear hb3) | (go_at_call 97; refine (bld_writes b b _ _ _ HI3.out HLEN.out (Nat.le_of_lt HZ3.out)).mono ?_; rintro e w4 ⟨rfl, hI4, hb4⟩; have HI4 := Lib.hid hI4; have HC4 := Lib.hid (cons_one HC3.out hb4 (Nat.le_of_lt HWB.out) HWB.out); have HZ4 := Lib.hid (Nat.lt_of_lt_of_le HZ3.out hb4.size); clear hI4 hb4))
              go_roundg g
              case measure => omega
              case rel =>
                refine ⟨j + 1, acc ++ cp, by have := HJ.out; omega, rfl, by rw [List.length_append]; have := HF.out; have := HACC.out; omega, ?_, Lib.hid (by rw [List.map_append]; exact HI4.out), HC4, HZ4⟩
                rw [HDJ.out]
                exact HA2
            · have HF := Lib.hid (cputP_len (p1, p2) false)
              have hj1 : ((j : Int) == 0) = false := by simp; omega
              have HJ0 := Lib.hid hj0
              clear hj0
              have HA2 : Hid (acc ++ cputP (p1, p2) false ++ (cputL DJ (if j + 1 = 0 then false else false) ++ endC) = BP) := Lib.hid (by
                have h := HA.out
                rw [HD.out, if_neg (by have := HJ0.out; omega)] at h
                rw [if_neg (by omega), ← h]
                show _ = acc ++ (cputP (p1, p2) false ++ cputL DJ false ++ endC)
                simp only [List.append_assoc])
              obtain ⟨cp, hcp⟩ : ∃ cp, cputP (p1, p2) false = cp := ⟨_, rfl⟩
              have CPF := Lib.hid (CP.out false)
              rw [hcp] at HF HA2 CPF
              clear hcp HA HD
              have HLEN := Lib.hid (show (acc.map byteV).length + cp.length ≤ 140737488355328 by rw [List.length_map]; have := HF.out; have := HACC.out; omega)
              go_wp2_with (first | (go_at_call 96; refine CPF.out.mono ?_; rintro e w3 ⟨rfl, hb3⟩; have HI3 := Lib.hid (bld_below (bld_below HI.out ((Below.refl _ _).alloc (Nat.le_refl _) _)) hb3); have HC3 := Lib.hid (cons_below (cons_alloc HC.out _) hb3); have HZ3 := Lib.hid (show b < w3.heap.size by have := HZ.out; have := hb3.size; simp at this; omega); clear hb3) | (go_at_call 97; refine (bld_writes b b _ _ _ HI3.out HLEN.out (Nat.le_of_lt HZ3.out)).mono ?_; rintro e w4 ⟨rfl, hI4, hb4⟩; have HI4 := Lib.hid hI4; have HC4 := Lib.hid (cons_one HC3.out hb4 (Nat.le_of_lt HWB.out) HWB.out); have HZ4 := Lib.hid (Nat.lt_of_lt_of_le HZ3.out hb4.size); clear hI4 hb4))
              go_roundg g
              case measure => omega
              case rel =>
                refine ⟨j + 1, acc ++ cp, by have := HJ.out; omega, rfl, by rw [List.length_append]; have := HF.out; have := HACC.out; omega, ?_, Lib.hid (by rw [List.map_append]; exact HI4.out), HC4, HZ4⟩
                rw [HDJ.out]
                exact HA2
      | succ g =>
        have hlt : (0 ≤ 7 - (j : Int)) := by omega
        have hw1 : IntKind.i64.wrap (7 - (j : Int) - 1) = 7 - ((j : Int) + 1) := by rw [IntKind.wrap_i64]; omega
        have HLEN := Lib.hid (show (((digL d 8).take j).map byteV).length + 1 ≤ 140737488355328 by rw [List.length_map, List.length_take]; omega)
        have HTK := Lib.hid (dig_take d j (by omega))
        have HDB := Lib.hid (dig_bit d (7 - j))
        go_wp2_with (go_at_call 95; refine (bld_write b b _ (48 + (d : Int) / 2 ^ (7 - j) % 2) _ HI1.out HLEN.out (Nat.le_of_lt HZ1.out)).mono ?_; rintro e w4 ⟨rfl, hI4, hb4⟩; have HI4 := Lib.hid hI4; have HC4 := Lib.hid (cons_one HC1.out hb4 (Nat.le_of_lt HWB.out) HWB.out); have HZ4 := Lib.hid (Nat.lt_of_lt_of_le HZ1.out hb4.size); clear hI4 hb4)
        go_roundg g
        case measure => omega
        case rel =>
          refine ⟨j + 1, by omega, by congr 1, Lib.hid ?_, HC4, HZ4⟩
          have h := HI4.out
          rw [HTK.out, List.map_append]
          rw [show (48 + (d : Int) / 2 ^ (7 - j) % 2) = (48 : Int) + ((d / 2 ^ (7 - j) % 2 : Nat) : Int) by push_cast; rfl, HDB.out] at h
          exact h
end Go.Proofs.YtcojnigkgbmbmaaGreatDoor
