/- Numb, Get -/
import Derived.Test.YtcojnigkgbmbmaaGreatDoorK25
import Derived.Lib.ConvBytes
namespace Go.Proofs.YtcojnigkgbmbmaaGreatDoor
open Go Go.RowKit
theorem numS_snoc (s : List UInt8) (c : UInt8) : numS (s ++ [c]) = 2 * numS s + (c.toNat - 48) := by unfold numS; rw [List.foldl_append]; rfl
theorem numS_lt (s : List UInt8) (h : ∀ c ∈ s, c = 48 ∨ c = 49) (k : Nat) : numS (s.take k) < 2 ^ k := by
  induction k with
  | zero => simp [numS]
  | succ k ih =>
    by_cases hk : k < s.length
    · rw [List.take_succ_eq_append_getElem hk, numS_snoc]
      have : s[k].toNat - 48 ≤ 1 := by rcases h _ (List.getElem_mem hk) with e | e <;> rw [e] <;> decide
      rw [Nat.pow_succ]; omega
    · rw [List.take_of_length_le (by omega)]
      rw [List.take_of_length_le (by omega)] at ih
      rw [Nat.pow_succ]; omega
theorem below_bytes (w : World) (e : TypeId) (t : ByteArray) : Below w.heap.size w (Lib.bytesWorld w e t) :=
  have h := ((Below.refl w.heap.size w).drew.alloc (B := w.heap.size) (by simp) (.cells (Lib.bytesCells w e t) e))
  ⟨h.os, h.tape, h.output, by rw [Lib.bytesWorld_size]; omega, fun b hb => Lib.bytesWorld_at_old w e t b hb⟩
theorem numS_step (s : List UInt8) (j : Nat) (hj : j < s.length) (c : Nat) (hc : (s.getD j 0).toNat = 48 + c) : numS (s.take (j + 1)) = 2 * numS (s.take j) + c := by
  rw [List.take_succ_eq_append_getElem hj, numS_snoc]
  have h2 : s.getD j 0 = s[j] := by simp [List.getD, hj]
  rw [h2] at hc
  omega
set_option maxRecDepth 100000 in
set_option maxHeartbeats 4000000 in
theorem parse_uint (s : List UInt8) (hs : ∀ c ∈ s, c = 48 ∨ c = 49) (h1 : 1 ≤ s.length) (h2 : s.length ≤ 20) (w : World) : Calls Tryz.prog 200 #[.string (bs s), .int .i64 2, .int .i64 64] w fun e w' => e = .returned (.tuple #[.int .u64 (numS s : Nat), .nilIface]) ∧ Below w.heap.size w w' := by
  have e1 : (s == []) = false := by rw [beq_eq_false_iff_ne]; intro e; rw [e] at h1; simp at h1
  have e2 : s.isEmpty = false := by cases s with
    | nil => simp at h1
    | cons a s => rfl
  have hd : ∀ j, j < s.length → s.getD j 0 = 48 ∨ s.getD j 0 = 49 := fun j hj => by
    have h2 : s.getD j 0 = s[j] := by simp [List.getD, hj]
    rw [h2]; exact hs _ (List.getElem_mem hj)
  have HD := Lib.hid hd
  have hlt : ∀ j, j ≤ s.length → numS (s.take j) < 1048576 := fun j hj => by
    have := numS_lt s hs j
    have h3 : 2 ^ j ≤ 2 ^ 20 := Nat.pow_le_pow_right (by decide) (by omega)
    omega
  have HL := Lib.hid hlt
  have hst := numS_step s
  have HS := Lib.hid hst
  have HE : Hid (numS (s.take s.length) = numS s) := Lib.hid (by rw [List.take_length])
  clear hs hd hlt hst
  have hcv := Lib.run_convert_string_bytes (P := Tryz.prog) w 9 22 5 (bs s) (u := .string) (by kernel_rfl) (by kernel_rfl) (by kernel_rfl)
  have hB : ∀ j, j < s.length → (Lib.bytesWorld w 5 (bs s)).cell? ⟨w.heap.size, j, none⟩ = some (.int .u8 (s.getD j 0).toNat) := fun j hj => by
    rw [Lib.bytesWorld_cell w 5 (bs s) j (by rw [bs_size]; exact hj), bs_toList]
  have HB := Lib.hid hB
  have hbel := below_bytes w 5 (bs s)
  obtain ⟨W1, hW1⟩ : ∃ W1, W1 = Lib.bytesWorld w 5 (bs s) := ⟨_, rfl⟩
  rw [← hW1] at hcv HB hbel
  clear hW1 hB
  generalize numS s = N at HE ⊢
  rw [bs_size] at hcv
  obtain ⟨cp, hcp⟩ : ∃ cp, cp = grownCap w s.length 0 5 := ⟨_, rfl⟩
  rw [← hcp] at hcv
  clear hcp
  have hmv : IntKind.u64.wrap (IntKind.u64.wrap 18446744073709551616 - 1) = 18446744073709551615 := by kernel_rfl
  go_enter Tryz.func200, Tryz.ntmps200
  go_wp2_with fail
  go_loop [12, 13, 101] (fun vu vn vi => ∃ (j q : Nat) (a : Int), vu = .bool false ∧ vn = .int .u64 a ∧ vi = .int .i64 (j : Int) ∧ j ≤ s.length ∧ Hid (q = numS (s.take j) ∧ a = (q : Int)))
    (fun _ _ vi => s.length - (Go.RowKit.intOf vi).toNat)
  case atStart => exact ⟨0, 0, 0, rfl, rfl, rfl, by omega, Lib.hid ⟨rfl, rfl⟩⟩
  case round =>
    obtain ⟨j, q, a, rfl, rfl, rfl, hj, Hq⟩ := hrel
    obtain ⟨ha0, ha1⟩ : 0 ≤ a ∧ a < 1048576 := by
      have := HL.out j hj
      rw [← Hq.out.1] at this
      rw [Hq.out.2]
      omega
    by_cases hlt : j < s.length
    · have hc := HB.out j hlt
      rcases HD.out j hlt with hz | hz
      · rw [hz] at hc
        have Hn := Lib.hid (HS.out j hlt 0 (by rw [hz]; rfl))
        clear hz
        go_wp2
        exact ⟨⟨j + 1, 2 * q + 0, a * 2, rfl, by congr 1, by congr 1, by omega, Lib.hid ⟨by rw [Hn.out, ← Hq.out.1], by have := Hq.out.2; omega⟩⟩, by simp [Go.RowKit.intOf]; omega⟩
      · rw [hz] at hc
        have Hn := Lib.hid (HS.out j hlt 1 (by rw [hz]; rfl))
        clear hz
        go_wp2
        exact ⟨⟨j + 1, 2 * q + 1, a * 2 + 1, rfl, by congr 1, by congr 1, by omega, Lib.hid ⟨by rw [Hn.out, ← Hq.out.1], by have := Hq.out.2; omega⟩⟩, by simp [Go.RowKit.intOf]; omega⟩
    · obtain rfl : j = s.length := by omega
      obtain ⟨hq1, hq2⟩ := Hq.out
      rw [HE.out] at hq1
      clear Hq
      subst hq1
      go_wp2
      go_ret2
      exact ⟨rfl, hbel⟩
set_option maxRecDepth 100000 in
set_option maxHeartbeats 4000000 in
theorem int_ParseInt (s : List UInt8) (hs : ∀ c ∈ s, c = 48 ∨ c = 49) (h1 : 1 ≤ s.length) (h2 : s.length ≤ 20) (w : World) : Calls Tryz.prog 196 #[.string (bs s), .int .i64 2, .int .i64 64] w fun e w' => e = .returned (.tuple #[.int .i64 (numS s : Nat), .nilIface]) ∧ Below w.heap.size w w' := by
  have e1 : (s == []) = false := by rw [beq_eq_false_iff_ne]; intro e; rw [e] at h1; simp at h1
  have e2 : s.isEmpty = false := by cases s with
    | nil => simp at h1
    | cons a s => rfl
  have hd : s[0] = 48 ∨ s[0] = 49 := hs _ (List.getElem_mem h1)
  have hlt : numS s < 1048576 := by
    have := numS_lt s hs s.length
    rw [List.take_length] at this
    have h3 : 2 ^ s.length ≤ 2 ^ 20 := Nat.pow_le_pow_right (by decide) (by omega)
    omega
  have hC := fun w => parse_uint s hs h1 h2 w
  have HC := Lib.hid hC
  clear hs hC
  obtain ⟨a, ha⟩ : ∃ a : Int, a = (numS s : Nat) := ⟨_, rfl⟩
  rw [← ha] at HC ⊢
  have ha0 : 0 ≤ a := by omega
  have ha1 : a < 1048576 := by omega
  clear ha hlt
  go_enter Tryz.func196, Tryz.ntmps196
  rcases hd with hd | hd
  · go_wp2_with (go_at_call 200; refine (HC.out _).mono ?_; rintro e w' ⟨rfl, hb⟩)
    go_ret2
    exact ⟨rfl, hb⟩
  · go_wp2_with (go_at_call 200; refine (HC.out _).mono ?_; rintro e w' ⟨rfl, hb⟩)
    go_ret2
    exact ⟨rfl, hb⟩
set_option maxRecDepth 100000 in
set_option maxHeartbeats 4000000 in
theorem strconv_ParseInt (s : List UInt8) (hs : ∀ c ∈ s, c = 48 ∨ c = 49) (h1 : 1 ≤ s.length) (h2 : s.length ≤ 20) (w : World) : Calls Tryz.prog 189 #[.string (bs s), .int .i64 2, .int .i64 64] w fun e w' => e = .returned (.tuple #[.int .i64 (numS s : Nat), .nilIface]) ∧ Below w.heap.size w w' := by
  have HC := Lib.hid (fun w => int_ParseInt s hs h1 h2 w)
  clear hs
  generalize numS s = n at *
  go_enter Tryz.func189, Tryz.ntmps189
  go_wp2_with (go_at_call 196; refine (HC.out _).mono ?_; rintro e w' ⟨rfl, hb⟩)
  go_ret2
  exact ⟨rfl, hb⟩
set_option maxRecDepth 100000 in
set_option maxHeartbeats 4000000 in
theorem coeff_number (s : List UInt8) (hs : ∀ c ∈ s, c = 48 ∨ c = 49) (h1 : 1 ≤ s.length) (h2 : s.length ≤ 20) (w : World) : Calls Tryz.prog 179 #[.string (bs s)] w fun e w' => e = .returned (.int .i64 (numS s : Nat)) ∧ Below w.heap.size w w' := by
  have HC := Lib.hid (fun w => strconv_ParseInt s hs h1 h2 w)
  clear hs
  generalize numS s = n at *
  go_enter Tryz.func179, Tryz.ntmps179
  go_wp2_with (go_at_call 189; refine (HC.out _).mono ?_; rintro e w' ⟨rfl, hb⟩)
  go_ret
  exact ⟨rfl, hb⟩
end Go.Proofs.YtcojnigkgbmbmaaGreatDoor
namespace Go.Proofs.YtcojnigkgbmbmaaGreatDoor
open Go Go.RowKit
attribute [local go_sem] Oper.semAt_some
def cgV (r : (Int × Int) × Bool × Int × Int) : Value := .tuple #[.agg #[.int .i64 r.1.1, .int .i64 r.1.2], .bool r.2.1, .int .i64 r.2.2.1, .int .i64 r.2.2.2]
def GtL (h : Nat) (r : (Int × Int) × Bool × Int × Int) : List CellF := [(h, 109, #[.int .i64 r.1.1, .int .i64 r.1.2]), (h + 1, 4, #[.bool r.2.1]), (h + 2, 3, #[.int .i64 r.2.2.1]), (h + 3, 30, #[.int .i64 r.2.2.2])]
def GeL (h g1 b : Nat) (first more : Bool) (s : List UInt8) : List CellF := (g1 + 1, 4, #[.bool first]) :: (g1, 4, #[.bool more]) :: (b, 9, #[.string (bs s)]) :: GtL h ((0, 0), false, 0, 0)
theorem lookC_no {s c : List UInt8} {p : Int × Int} {T : List ((Int × Int) × List UInt8)} {more : Bool} (h : sameB s c = false) : lookC s ((p, c) :: T) more = lookC s T more := by
  show (if !sameB s c then _ else _) = _
  rw [h]; rfl
theorem lookC_short {s c : List UInt8} {p : Int × Int} {T : List ((Int × Int) × List UInt8)} {more : Bool} (h : sameB s c = true) (hl : s.length ≤ c.length) : lookC s ((p, c) :: T) more = lookC s T true := by
  show (if !sameB s c then _ else if s.length ≤ c.length then _ else _) = _
  rw [h, if_neg (by decide), if_pos hl]
theorem lookC_hit {s c : List UInt8} {p : Int × Int} {T : List ((Int × Int) × List UInt8)} {more : Bool} (h : sameB s c = true) (hl : ¬ s.length ≤ c.length) : lookC s ((p, c) :: T) more = ((p.1, if s.getD c.length 0 == 49 then -p.2 else p.2), false, (c.length : Int) + 1, 0) := by
  show (if !sameB s c then _ else if s.length ≤ c.length then _ else _) = _
  rw [h, if_neg (by decide), if_neg hl]
theorem get_res (h : Nat) (r : (Int × Int) × Bool × Int × Int) (tmps : Array Value) (W : World) (hc : CellsAt (GtL h r) W) (t6 : tmps.getD 6 undef = .pointer (some ⟨h, 0, none⟩)) (t7 : tmps.getD 7 undef = .pointer (some ⟨h + 1, 0, none⟩))
    (t8 : tmps.getD 8 undef = .pointer (some ⟨h + 2, 0, none⟩)) (t9 : tmps.getD 9 undef = .pointer (some ⟨h + 3, 0, none⟩)) : (results Tryz.f166 tmps).run Tryz.prog W = .ok (cgV r) W := by
  unfold GtL at hc
  have h6 : W.cell? ⟨h, 0, none⟩ = some (.int .i64 r.1.1) := hc.head.cell 0
  have h6' : W.cell? ⟨h, 1, none⟩ = some (.int .i64 r.1.2) := hc.head.cell 1
  have h7 : W.cell? ⟨h + 1, 0, none⟩ = some (.bool r.2.1) := hc.tail.head.cell 0
  have h8 : W.cell? ⟨h + 2, 0, none⟩ = some (.int .i64 r.2.2.1) := hc.tail.tail.head.cell 0
  have h9 : W.cell? ⟨h + 3, 0, none⟩ = some (.int .i64 r.2.2.2) := hc.tail.tail.tail.head.cell 0
  have t6' : tmps[6]?.getD undef = .pointer (some ⟨h, 0, none⟩) := by simpa using t6
  have t7' : tmps[7]?.getD undef = .pointer (some ⟨h + 1, 0, none⟩) := by simpa using t7
  have t8' : tmps[8]?.getD undef = .pointer (some ⟨h + 2, 0, none⟩) := by simpa using t8
  have t9' : tmps[9]?.getD undef = .pointer (some ⟨h + 3, 0, none⟩) := by simpa using t9
  unfold cgV
  simp [results, Tryz.results166, t6', t7', t8', t9', asAddr, h6, h6', h7, h8, h9, go_sem]
theorem wrap_i8' (n : Int) : IntKind.i8.wrap n = (n + 128) % 256 - 128 := by
  simp [IntKind.wrap, IntKind.bits, IntKind.signed]
  split <;> omega
theorem numS_ltN (s : List UInt8) (n : Nat) (hn : s.length = n) (h : ∀ c ∈ s, c = 48 ∨ c = 49) : numS s < 2 ^ n := by
  have h1 := numS_lt s h n
  rwa [List.take_of_length_le (by omega)] at h1
theorem get_at {w w1 : World} (s : ByteArray) (hb : Below ((((w.alloc (.cells #[.int .i64 0, .int .i64 0] 109)).alloc (.cells #[.bool false] 4)).alloc (.cells #[.int .i64 0] 3)).alloc (.cells #[.int .i64 0] 30)).heap.size ((((w.alloc (.cells #[.int .i64 0, .int .i64 0] 109)).alloc (.cells #[.bool false] 4)).alloc (.cells #[.int .i64 0] 3)).alloc (.cells #[.int .i64 0] 30)) w1) :
    Cons w ((w1.heap.size, 9, #[.string s]) :: GtL w.heap.size ((0, 0), false, 0, 0)) [] (w1.alloc (.cells #[.string s] 9)) ∧ w.heap.size + 4 ≤ w1.heap.size := by
  refine ⟨⟨?_, CellsAt.cons (Blk.new _ _ _) (CellsAt.alloc ?_ _), rowsAt_nil _⟩, by have := hb.size; simp at this; omega⟩
  · exact ((((((Below.refl _ _).alloc (Nat.le_refl _) _).alloc (by simp) _).alloc (by simp; omega) _).alloc (by simp; omega) _).trans (hb.mono (by simp; omega))).alloc (by have := hb.size; simp at this; omega) _
  · refine CellsAt.below ?_ hb
    unfold GtL
    refine CellsAt.cons ?_ (CellsAt.cons ?_ (CellsAt.cons ?_ (CellsAt.cons ?_ (cellsAt_nil _))))
    all_goals (repeat (first | (refine blkAt (Blk.new _ _ _) ?_; simp [World.size_alloc]; done) | refine Blk.alloc ?_ _))
theorem get_set {w W : World} {r0 : (Int × Int) × Bool × Int × Int} (r : (Int × Int) × Bool × Int × Int) (hc : Cons w (GtL w.heap.size r0) [] W) : CellsAt (GtL w.heap.size r) (((((W.setCell ⟨w.heap.size, 0, none⟩ (.int .i64 r.1.1)).setCell ⟨w.heap.size, 1, none⟩ (.int .i64 r.1.2)).setCell ⟨w.heap.size + 1, 0, none⟩ (.bool r.2.1)).setCell ⟨w.heap.size + 2, 0, none⟩ (.int .i64 r.2.2.1)).setCell ⟨w.heap.size + 3, 0, none⟩ (.int .i64 r.2.2.2)) ∧
    Below w.heap.size w (((((W.setCell ⟨w.heap.size, 0, none⟩ (.int .i64 r.1.1)).setCell ⟨w.heap.size, 1, none⟩ (.int .i64 r.1.2)).setCell ⟨w.heap.size + 1, 0, none⟩ (.bool r.2.1)).setCell ⟨w.heap.size + 2, 0, none⟩ (.int .i64 r.2.2.1)).setCell ⟨w.heap.size + 3, 0, none⟩ (.int .i64 r.2.2.2)) := by
  unfold GtL at hc ⊢
  have hx := hc.2.1
  have b1 := hx.head
  have b2 := hx.tail.head
  have b3 := hx.tail.tail.head
  have b4 := hx.tail.tail.tail.head
  dsimp only at b1 b2 b3 b4
  refine ⟨CellsAt.cons ?_ (CellsAt.cons ?_ (CellsAt.cons ?_ (CellsAt.cons ?_ (cellsAt_nil _)))), ?_⟩
  · exact ((((b1.set_ 0 (.int .i64 r.1.1)).set_ 1 (.int .i64 r.1.2)).far (by simp) _).far (by simp) _).far (by simp) _
  · exact (((((b2.far (p := ⟨w.heap.size, 0, none⟩) (by simp) (.int .i64 r.1.1)).far (p := ⟨w.heap.size, 1, none⟩) (by simp) (.int .i64 r.1.2)).set_ 0 (.bool r.2.1)).far (by simp) _).far (by simp) _)
  · exact (((((b3.far (p := ⟨w.heap.size, 0, none⟩) (by simp) (.int .i64 r.1.1)).far (p := ⟨w.heap.size, 1, none⟩) (by simp) (.int .i64 r.1.2)).far (p := ⟨w.heap.size + 1, 0, none⟩) (by simp) (.bool r.2.1)).set_ 0 (.int .i64 r.2.2.1)).far (by simp) _)
  · exact (((((b4.far (p := ⟨w.heap.size, 0, none⟩) (by simp) (.int .i64 r.1.1)).far (p := ⟨w.heap.size, 1, none⟩) (by simp) (.int .i64 r.1.2)).far (p := ⟨w.heap.size + 1, 0, none⟩) (by simp) (.bool r.2.1)).far (p := ⟨w.heap.size + 2, 0, none⟩) (by simp) (.int .i64 r.2.2.1)).set_ 0 (.int .i64 r.2.2.2))
  · exact ((((hc.1.setCell (by simp) _).setCell (by simp) _).setCell (by simp) _).setCell (by simp) _).setCell (by simp) _
theorem u8_eq (c : UInt8) : (c == 49) = (((c.toNat : Nat) : Int) == 49) := by
  rw [Bool.eq_iff_iff, beq_iff_eq, beq_iff_eq]
  constructor
  · rintro rfl; rfl
  · intro h; exact UInt8.toNat_inj.1 (by have : c.toNat = 49 := by omega
                                         rw [this]; rfl)
theorem tabL_all (first : Bool) : (tabL first).all (fun x => decide (0 ≤ x.1.2) && decide (x.1.2 ≤ 127)) = true := by cases first <;> kernel_rfl
theorem tabL_lvl {first : Bool} {x : (Int × Int) × List UInt8} (h : x ∈ tabL first) : 0 ≤ x.1.2 ∧ x.1.2 ≤ 127 := by
  have h1 := List.all_eq_true.1 (tabL_all first) x h
  simpa using h1
theorem get_more {w W : World} {g g1 b : Nat} {s : List UInt8} {first more : Bool} {q1 q2 : Int} (h : Cons w ((g, 109, #[.int .i64 q1, .int .i64 q2]) :: GeL w.heap.size g1 b first more s) [] W) (hb : b < g1) (hh : w.heap.size + 4 ≤ b) : Cons w (GeL w.heap.size g1 b first true s) [] (W.setCell ⟨g1, 0, none⟩ (.bool true)) := by
  have hx := h.2.1.tail
  unfold GeL at hx ⊢
  refine ⟨h.1.setCell (by show w.heap.size ≤ g1; omega) _, CellsAt.cons (hx.head.far (by show g1 + 1 ≠ g1; omega) _) (CellsAt.cons (hx.tail.head.set_ 0 _) (CellsAt.far hx.tail.tail ?_ _)), rowsAt_nil _⟩
  intro q hq
  unfold GtL at hq
  simp only [List.mem_cons, List.mem_nil_iff, or_false] at hq
  rcases hq with rfl | rfl | rfl | rfl | rfl <;> simp <;> omega
theorem get_far {w W : World} {r : (Int × Int) × Bool × Int × Int} {u : Value} (h : Cons w (GtL w.heap.size r) [] W) {g : Nat} (i : Nat) (hg : w.heap.size + 4 ≤ g) : Cons w (GtL w.heap.size r) [] (W.setCell ⟨g, i, none⟩ u) := by
  refine ⟨h.1.setCell (by show w.heap.size ≤ g; omega) _, CellsAt.far h.2.1 ?_ _, rowsAt_nil _⟩
  intro q hq
  unfold GtL at hq
  simp only [List.mem_cons, List.mem_nil_iff, or_false] at hq
  rcases hq with rfl | rfl | rfl | rfl <;> simp <;> omega
theorem get_def {h : Nat} {W : World} (r : (Int × Int) × Bool × Int × Int) {D : Nat} {o : Obj} (hD : h + 4 ≤ D) (hK : W.heap[D]? = some o) : (((((W.setCell ⟨h, 0, none⟩ (.int .i64 r.1.1)).setCell ⟨h, 1, none⟩ (.int .i64 r.1.2)).setCell ⟨h + 1, 0, none⟩ (.bool r.2.1)).setCell ⟨h + 2, 0, none⟩ (.int .i64 r.2.2.1)).setCell ⟨h + 3, 0, none⟩ (.int .i64 r.2.2.2)).heap[D]? = some o := by
  rw [Below.heap_setCell _ _ _ D (by show D ≠ h + 3; omega), Below.heap_setCell _ _ _ D (by show D ≠ h + 2; omega), Below.heap_setCell _ _ _ D (by show D ≠ h + 1; omega), Below.heap_setCell _ _ _ D (by show D ≠ h; omega), Below.heap_setCell _ _ _ D (by show D ≠ h; omega)]
  exact hK
set_option maxRecDepth 100000 in
set_option maxHeartbeats 40000000 in
theorem coeff_Get (A : Option Addr) (n c : Nat) (l : List UInt8) (i : Int) (first : Bool) (w : World) (hA : Sl w A (l.map byteV)) (hn : l.length = n) (hsz : n ≤ 2 ^ 47) (hT : Ts w) :
    Calls Tryz.prog 166 #[.slice A n c, .int .i64 i, .bool first] w fun e w' => e = .returned (cgV (cgetP l i first)) ∧ Below w.heap.size w w' := by
  obtain ⟨r, hr⟩ : ∃ r, cgetP l i first = r := ⟨_, rfl⟩
  rw [hr]
  unfold cgetP at hr
  rw [hn] at hr
  have HA := Lib.hid hA; have HN := Lib.hid hn; have HT := Lib.hid hT
  clear hA hn hT
  by_cases hi0 : i < 0
  · rw [if_pos hi0] at hr
    subst hr
    refine (callsIn_wide (n := 5)).1 ?_
    refine callsIn_of_wp_marks Tryz.func166 rfl trivial ?_ rfl
    simp only [Tryz.ntmps166, List.size_toArray, List.length_cons, List.length_nil, Nat.reduceAdd, Nat.reduceSub, Array.replicate_succ, Array.replicate_zero, List.push_toArray, List.append_toArray, List.nil_append, List.cons_append]
    refine wpIn_wide.2 ?_
    go_wp2_with fail
    simp only [Nat.add_assoc, Nat.reduceAdd]
    refine retN (v := cgV ((0, 0), false, 0, 3)) ?_ ⟨rfl, ?_⟩
    · refine get_res w.heap.size ((0, 0), false, 0, 3) _ _ ?_ rfl rfl rfl rfl
      unfold GtL
      refine CellsAt.cons ?_ (CellsAt.cons ?_ (CellsAt.cons ?_ (CellsAt.cons ?_ (cellsAt_nil _))))
      all_goals (repeat (first | (refine blkAt (Blk.new _ _ _) ?_; simp [World.size_alloc]; done) | refine Blk.alloc ?_ _))
    · exact ((((Below.refl _ _).alloc (Nat.le_refl _) _).alloc (by simp) _).alloc (by simp; omega) _).alloc (by simp; omega) _
  rw [if_neg hi0] at hr
  by_cases hi1 : 8 * (n : Int) < i
  · rw [if_pos hi1] at hr
    subst hr
    refine (callsIn_wide (n := 5)).1 ?_
    refine callsIn_of_wp_marks Tryz.func166 rfl trivial ?_ rfl
    simp only [Tryz.ntmps166, List.size_toArray, List.length_cons, List.length_nil, Nat.reduceAdd, Nat.reduceSub, Array.replicate_succ, Array.replicate_zero, List.push_toArray, List.append_toArray, List.nil_append, List.cons_append]
    refine wpIn_wide.2 ?_
    go_wp2_with (go_at_call 142; refine (bits_Count A n c _ hsz).mono ?_; rintro e w' ⟨rfl, rfl⟩)
    simp only [Nat.add_assoc, Nat.reduceAdd]
    refine retN (v := cgV ((0, 0), false, 0, 5)) ?_ ⟨rfl, ?_⟩
    · refine get_res w.heap.size ((0, 0), false, 0, 5) _ _ ?_ rfl rfl rfl rfl
      unfold GtL
      refine CellsAt.cons ?_ (CellsAt.cons ?_ (CellsAt.cons ?_ (CellsAt.cons ?_ (cellsAt_nil _))))
      all_goals (repeat (first | (refine blkAt (Blk.new _ _ _) ?_; simp [World.size_alloc]; done) | refine Blk.alloc ?_ _))
    · exact ((((Below.refl _ _).alloc (Nat.le_refl _) _).alloc (by simp) _).alloc (by simp; omega) _).alloc (by simp; omega) _
  rw [if_neg hi1] at hr
  obtain ⟨k, rfl⟩ : ∃ k : Nat, i = (k : Int) := ⟨i.toNat, by omega⟩
  rw [Int.toNat_natCast] at hr
  dsimp only at hr
  have hk : k ≤ 8 * n := by omega
  have SEEN := Lib.hid (fun W h => coeff_seen A n c l k W h HN.out hsz hk)
  have hor := bitsL_or l k (min 20 (8 * n - k))
  have hlen : (bitsL l k (min 20 (8 * n - k))).length ≤ 20 := by rw [bitsL_length]; omega
  generalize bitsL l k (min 20 (8 * n - k)) = s at *
  have HOR := Lib.hid hor
  clear hor
  have SM := Lib.hid (fun W => coeff_same s escC W)
  refine (callsIn_wide (n := 5)).1 ?_
  refine callsIn_of_wp_marks Tryz.func166 rfl trivial ?_ rfl
  simp only [Tryz.ntmps166, List.size_toArray, List.length_cons, List.length_nil, Nat.reduceAdd, Nat.reduceSub, Array.replicate_succ, Array.replicate_zero, List.push_toArray, List.append_toArray, List.nil_append, List.cons_append]
  refine wpIn_wide.2 ?_
  go_wp2_with (first | (go_at_call 142; refine (bits_Count A n c _ hsz).mono ?_; rintro e w' ⟨rfl, rfl⟩) | (go_at_call 177; refine (SEEN.out _ (HA.out.below (((((Below.refl _ _).alloc (Nat.le_refl _) _).alloc (by simp) _).alloc (by simp; omega) _).alloc (by simp; omega) _))).mono ?_; rintro e w1 ⟨rfl, hb1⟩; have HB1 := Lib.hid hb1; clear hb1) | fail)
  obtain ⟨hcs, hbb⟩ := get_at (bs s) HB1.out
  have HCS := Lib.hid hcs
  have HBB := Lib.hid hbb
  clear hcs hbb
  obtain ⟨b, hb⟩ : ∃ b, w1.heap.size = b := ⟨_, rfl⟩
  rw [hb] at HCS HBB
  rw [hb]
  obtain ⟨w2, hw2⟩ : ∃ w2, w1.alloc (.cells #[.string (bs s)] 9) = w2 := ⟨_, rfl⟩
  rw [hw2] at HCS
  rw [hw2]
  clear hb hw2
  refine (SM.out _).mono ?_
  rintro e w3 ⟨rfl, hb3⟩
  have HC3 := Lib.hid (cons_below HCS.out hb3)
  clear hb3
  have hx := HC3.out.2.1
  unfold GtL at hx
  have c0 := hx.head.cell 0
  have c1 := hx.tail.head.cell 0
  have c1' := hx.tail.head.cell 1
  have c2 := hx.tail.tail.head.cell 0
  have c3 := hx.tail.tail.tail.head.cell 0
  have c4 := hx.tail.tail.tail.tail.head.cell 0
  have f1 := hx.tail.head.frozen 0
  have f1' := hx.tail.head.frozen 1
  have f2 := hx.tail.tail.head.frozen 0
  have f3 := hx.tail.tail.tail.head.frozen 0
  have f4 := hx.tail.tail.tail.tail.head.frozen 0
  dsimp only at c0 c1 c1' c2 c3 c4 f1 f1' f2 f3 f4
  clear hx
  simp only [Nat.add_assoc, Nat.reduceAdd]
  cases he : sameB s escC with
  | true =>
    rw [he, if_pos rfl] at hr
    clear he
    by_cases hsl : s.length < 20
    · rw [if_pos hsl] at hr
      subst hr
      go_wp2_with fail
      obtain ⟨q1, q2⟩ := get_set ((0, 0), false, 0, 5) (cons_drop HC3.out)
      exact retN (v := cgV ((0, 0), false, 0, 5)) (get_res w.heap.size ((0, 0), false, 0, 5) _ _ q1 rfl rfl rfl rfl) ⟨rfl, q2⟩
    · rw [if_neg hsl] at hr
      have hs20 : s.length = 20 := by omega
      have hNb : numS (s.drop 12) < 256 := numS_ltN (s.drop 12) 8 (by simp; omega) (fun c hc => HOR.out c (List.mem_of_mem_drop hc))
      have e20 : s.take 20 = s := List.take_of_length_le (by omega)
      have NA := Lib.hid (fun W => coeff_number ((s.take 20).drop 12) (fun c hc => HOR.out c (by rw [e20] at hc; exact List.mem_of_mem_drop hc)) (by simp; omega) (by simp; omega) W)
      have NB := Lib.hid (fun W => coeff_number ((s.take 12).drop 6) (fun c hc => HOR.out c (List.mem_of_mem_take (List.mem_of_mem_drop hc))) (by simp; omega) (by simp; omega) W)
      obtain ⟨na, hna⟩ : ∃ na, numS (s.drop 12) = na := ⟨_, rfl⟩
      rw [hna] at hr hNb
      have NA := Lib.hid (fun W => by have h := NA.out W; rw [show numS ((s.take 20).drop 12) = na by rw [e20, hna]] at h; exact h)
      clear hna e20
      generalize numS ((s.take 12).drop 6) = nb at hr NB
      have hcv : IntKind.i8.wrap (na : Int) = i8 na := by rw [wrap_i8']; unfold i8; split <;> omega
      have hv1 : -128 ≤ i8 na ∧ i8 na ≤ 127 := by unfold i8; split <;> omega
      obtain ⟨v, hv⟩ : ∃ v, i8 na = v := ⟨_, rfl⟩
      rw [hv] at hr hcv hv1
      obtain ⟨hv1, hv2⟩ := hv1
      clear hv
      cases q1 : (v == 0) with
      | true =>
        rw [q1, Bool.true_or, if_pos rfl] at hr
        subst hr
        go_wp2_with (go_at_call 179; refine (NA.out _).mono ?_; rintro e w4 ⟨rfl, hb4⟩; have HC4 := Lib.hid (cons_below HC3.out hb4); clear hb4; clear c0 c1 c1' c2 c3 c4 f1 f1' f2 f3 f4; have hx := HC4.out.2.1; unfold GtL at hx; have c0 := hx.head.cell 0; have c1 := hx.tail.head.cell 0; have c1' := hx.tail.head.cell 1; have c2 := hx.tail.tail.head.cell 0; have c3 := hx.tail.tail.tail.head.cell 0; have c4 := hx.tail.tail.tail.tail.head.cell 0; have f1 := hx.tail.head.frozen 0; have f1' := hx.tail.head.frozen 1; have f2 := hx.tail.tail.head.frozen 0; have f3 := hx.tail.tail.tail.head.frozen 0; have f4 := hx.tail.tail.tail.tail.head.frozen 0; dsimp only at c0 c1 c1' c2 c3 c4 f1 f1' f2 f3 f4; clear hx)
        obtain ⟨q1, q2⟩ := get_set ((0, 0), false, 0, 10) (cons_drop HC4.out)
        exact retN (v := cgV ((0, 0), false, 0, 10)) (get_res w.heap.size ((0, 0), false, 0, 10) _ _ q1 rfl rfl rfl rfl) ⟨rfl, q2⟩
      | false =>
        cases q2 : (v == -128) with
        | true =>
          rw [q1, q2, Bool.false_or, if_pos rfl] at hr
          subst hr
          go_wp2_with (go_at_call 179; refine (NA.out _).mono ?_; rintro e w4 ⟨rfl, hb4⟩; have HC4 := Lib.hid (cons_below HC3.out hb4); clear hb4; clear c0 c1 c1' c2 c3 c4 f1 f1' f2 f3 f4; have hx := HC4.out.2.1; unfold GtL at hx; have c0 := hx.head.cell 0; have c1 := hx.tail.head.cell 0; have c1' := hx.tail.head.cell 1; have c2 := hx.tail.tail.head.cell 0; have c3 := hx.tail.tail.tail.head.cell 0; have c4 := hx.tail.tail.tail.tail.head.cell 0; have f1 := hx.tail.head.frozen 0; have f1' := hx.tail.head.frozen 1; have f2 := hx.tail.tail.head.frozen 0; have f3 := hx.tail.tail.tail.head.frozen 0; have f4 := hx.tail.tail.tail.tail.head.frozen 0; dsimp only at c0 c1 c1' c2 c3 c4 f1 f1' f2 f3 f4; clear hx)
          obtain ⟨q1, q2⟩ := get_set ((0, 0), false, 0, 10) (cons_drop HC4.out)
          exact retN (v := cgV ((0, 0), false, 0, 10)) (get_res w.heap.size ((0, 0), false, 0, 10) _ _ q1 rfl rfl rfl rfl) ⟨rfl, q2⟩
        | false =>
          rw [q1, q2, Bool.false_or, if_neg (by decide)] at hr
          subst hr
          have HTOK := Lib.hid trivial
          go_wp2_with (first | (clear HTOK; go_at_call 179; refine (NA.out _).mono ?_; rintro e w4 ⟨rfl, hb4⟩; have HC4 := Lib.hid (cons_below HC3.out hb4); clear hb4; clear c0 c1 c1' c2 c3 c4 f1 f1' f2 f3 f4; have hx := HC4.out.2.1; unfold GtL at hx; have c0 := hx.head.cell 0; have c1 := hx.tail.head.cell 0; have c1' := hx.tail.head.cell 1; have c2 := hx.tail.tail.head.cell 0; have c3 := hx.tail.tail.tail.head.cell 0; have c4 := hx.tail.tail.tail.tail.head.cell 0; have f1 := hx.tail.head.frozen 0; have f1' := hx.tail.head.frozen 1; have f2 := hx.tail.tail.head.frozen 0; have f3 := hx.tail.tail.tail.head.frozen 0; have f4 := hx.tail.tail.tail.tail.head.frozen 0; dsimp only at c0 c1 c1' c2 c3 c4 f1 f1' f2 f3 f4; clear hx) | (go_at_call 179; refine (NB.out _).mono ?_; rintro e w5 ⟨rfl, hb5⟩; have HC5 := Lib.hid (cons_below HC4.out hb5); clear hb5; clear c0 c1 c1' c2 c3 c4 f1 f1' f2 f3 f4; have hx := HC5.out.2.1; unfold GtL at hx; have c0 := hx.head.cell 0; have c1 := hx.tail.head.cell 0; have c1' := hx.tail.head.cell 1; have c2 := hx.tail.tail.head.cell 0; have c3 := hx.tail.tail.tail.head.cell 0; have c4 := hx.tail.tail.tail.tail.head.cell 0; have f1 := hx.tail.head.frozen 0; have f1' := hx.tail.head.frozen 1; have f2 := hx.tail.tail.head.frozen 0; have f3 := hx.tail.tail.tail.head.frozen 0; have f4 := hx.tail.tail.tail.tail.head.frozen 0; dsimp only at c0 c1 c1' c2 c3 c4 f1 f1' f2 f3 f4; clear hx))
          obtain ⟨q1, q2⟩ := get_set (((nb : Nat), v), false, 20, 0) (cons_drop HC5.out)
          exact retN (v := cgV (((nb : Nat), v), false, 20, 0)) (get_res w.heap.size (((nb : Nat), v), false, 20, 0) _ _ q1 rfl rfl rfl rfl) ⟨rfl, q2⟩
  | false =>
    rw [he, if_neg (by decide)] at hr
    cases first with
    | false =>
      cases hp : endC.isPrefixOf s with
      | true =>
        rw [hp, if_pos (show (!false && true) = true by decide)] at hr
        subst hr
        have hp2 : Lib.hasPrefix (bs s).data.toList (bs endC).data.toList = true := by rw [bs_toList, bs_toList]; exact hp
        have HP := Lib.hid (fun W => Tryz.strings_HasPrefix (bs s) (bs endC) W)
        rw [hp2] at HP
        go_wp2_with (go_at_call 180; refine (HP.out _).mono ?_; rintro e w4 ⟨rfl, rfl⟩)
        obtain ⟨q1, q2⟩ := get_set ((0, 0), true, 2, 0) (cons_drop HC3.out)
        exact retN (v := cgV ((0, 0), true, 2, 0)) (get_res w.heap.size ((0, 0), true, 2, 0) _ _ q1 rfl rfl rfl rfl) ⟨rfl, q2⟩
      | false =>
        rw [hp, if_neg (show ¬ ((!false && false) = true) by decide)] at hr
        have hp2 : Lib.hasPrefix (bs s).data.toList (bs endC).data.toList = false := by rw [bs_toList, bs_toList]; exact hp
        have HP := Lib.hid (fun W => Tryz.strings_HasPrefix (bs s) (bs endC) W)
        rw [hp2] at HP
        obtain ⟨m0, hm0⟩ : ∃ m0, sameB s endC = m0 := ⟨_, rfl⟩
        have SE := Lib.hid (fun W => coeff_same s endC W)
        rw [hm0] at hr SE
        rw [show (!false && m0) = m0 by simp] at hr
        have HR := Lib.hid hr
        clear hr hp hp2 hm0 he
        go_wp2_with (first | (go_at_call 180; refine (HP.out _).mono ?_; rintro e w4 ⟨rfl, rfl⟩) | (go_at_call 178; refine (SE.out _).mono ?_; rintro e w4 ⟨rfl, hb4⟩; have HC4 := Lib.hid (cons_below HC3.out hb4); clear hb4) | (go_at_call 158; refine (coeff_table false _).mono ?_; rintro e w' ⟨rfl, rfl⟩))
        obtain ⟨hcB, hsz4⟩ : Cons w ((w4.heap.size + 1, 4, #[.bool false]) :: (w4.heap.size, 4, #[.bool m0]) :: (b, 9, #[.string (bs s)]) :: GtL w.heap.size ((0, 0), false, 0, 0)) [] ((w4.alloc (.cells #[.bool m0] 4)).alloc (.cells #[.bool false] 4)) ∧ b < w4.heap.size := by
          refine ⟨cons_cell (cons_alloc (cons_cell (cons_alloc HC4.out _) (Blk.new _ _ _)) _) (blkAt (Blk.new _ _ _) (by simp)), HC4.out.2.1.head.lt⟩
        obtain ⟨g1, hg1⟩ : ∃ g1, w4.heap.size = g1 := ⟨_, rfl⟩
        rw [hg1] at hcB hsz4 ⊢
        obtain ⟨W, hW⟩ : ∃ W, (w4.alloc (.cells #[.bool m0] 4)).alloc (.cells #[.bool false] 4) = W := ⟨_, rfl⟩
        have hWs : W.heap.size = g1 + 2 := by rw [← hW]; simp; omega
        rw [hW] at hcB ⊢
        clear hW hg1
        have HCB := Lib.hid hcB
        have HWS := Lib.hid hWs
        clear hcB hWs
        refine (wpIn_wide (n := 5)).1 ?_
        refine wp_gF (α := (Int × Int) × List UInt8) (enc := encT) (I := ICons w (fun pre (more : Bool) => ∀ T, lookC s (pre ++ T) m0 = lookC s T more) (fun _ more => GeL w.heap.size g1 b false more s) (fun _ _ => [])) (I2 := ICons w (fun pre (more : Bool) => ∀ T, lookC s (pre ++ T) m0 = lookC s T more) (fun _ more => GeL w.heap.size g1 b false more s) (fun _ _ => [])) (S := fun xs => xs = tabL false) (Sp := fun pre => pre <+: tabL false)
          rfl (by decide) (gf := 171) (lb := #[.pointer (some ⟨g1 + 1, 0, none⟩)]) rfl trivial (enters_of Tryz.func171 (by kernel_rfl) rfl)
          (table_seq 4 (by decide) (g1 + 1) false _ ic_below ?hIs) (fun _ => rfl)
          (fun cd _ W => RetC w (GtL w.heap.size r) cd W)
          (fun pre x g W => ICons w (fun pre (more : Bool) => (∀ T, lookC s (pre ++ T) m0 = lookC s T more) ∧ b < g) (fun _ more => (g, 109, #[.int .i64 x.1.1, .int .i64 x.1.2]) :: GeL w.heap.size g1 b false more s) (fun _ _ => []) pre W)
          (own_ic HCB.out.1.size _ _ _) (own_ic HCB.out.1.size _ _ _) (fun cd => own_retC HCB.out.1.size _ _) (fun x g => own_ic HCB.out.1.size _ _ _) ?start ?round ?done ?stop
        case hIs =>
          rintro pre W' ⟨⟨_, _, hc⟩⟩
          exact ⟨hc.2.1.head, HT.out.below hc.1⟩
        case start => exact ⟨⟨m0, fun T => rfl, HCB.out⟩⟩
        case round =>
          apply Exists.intro
          refine And.intro ?_ ?_
          · rintro lp pre x W' ⟨⟨u, hu, hc⟩⟩ hsp
            have HU := Lib.hid hu; have HC := Lib.hid hc
            clear hu hc hsp
            unfold encT
            gi_wp2
            obtain ⟨g0, hg0⟩ : ∃ g0, W'.heap.size = g0 := ⟨_, rfl⟩
            have hcc := cons_cell (cons_alloc HC.out (.cells #[.int .i64 x.1.1, .int .i64 x.1.2] 109)) (blkAt (Blk.new W' 109 #[.int .i64 x.1.1, .int .i64 x.1.2]) hg0)
            rw [hg0]
            exact ⟨⟨g0, rfl, ⟨u, ⟨HU.out, hg0 ▸ HC.out.2.1.tail.tail.head.lt⟩, hcc⟩⟩, kf_alloc (KeepsFrom.refl _ _) _, (KeepC.refl _ _).alloc _⟩
          · rintro lp pre x g W' ⟨⟨more, ⟨hu, hbg⟩, hc⟩⟩ hsp
            obtain ⟨⟨q1, q2⟩, cc⟩ := x
            dsimp only at hc
            have hs := hc.2.1
            unfold GeL at hs
            have s0 := hs.tail.tail.tail.head.cell 0
            dsimp only at s0
            have SMC := Lib.hid (fun W => coeff_same s cc W)
            have HC := Lib.hid hc; have HU := Lib.hid hu; have HSP := Lib.hid hsp
            clear hc hu hsp hs
            cases e1 : sameB s cc with
            | false =>
              have HM := Lib.hid (fun T => lookC_no (p := (q1, q2)) (T := T) (more := more) e1)
              rw [e1] at SMC
              clear e1
              gi_wp2_with (refine ⟨trivial, ?_⟩; gi_at_call 178; refine (callsIn_wide.2 (SMC.out _)).mono ?_; rintro e w5 ⟨rfl, hb5⟩; have HB5 := Lib.hid hb5; clear hb5)
              refine ⟨kf_below HB5.out, (KeepC.refl _ _).below HB5.out, ⟨⟨more, fun T => ?_, cons_below (cons_drop HC.out) HB5.out⟩⟩⟩
              rw [List.append_assoc, List.singleton_append, HU.out, HM.out]
            | true =>
              by_cases hl : s.length ≤ cc.length
              · have HM := Lib.hid (fun T => lookC_short (p := (q1, q2)) (T := T) (more := more) e1 hl)
                rw [e1] at SMC
                have hl2 : ((s.length : Nat) : Int) ≤ ((cc.length : Nat) : Int) := by omega
                clear e1 hl
                gi_wp2_with (refine ⟨trivial, ?_⟩; gi_at_call 178; refine (callsIn_wide.2 (SMC.out _)).mono ?_; rintro e w5 ⟨rfl, hb5⟩; have HC5 := Lib.hid (cons_below HC.out hb5); have HB5 := Lib.hid hb5; clear hb5; have hx := HC5.out.2.1; unfold GeL at hx; have s5 := hx.tail.tail.tail.head.cell 0; have m5 := hx.tail.tail.head.cell 0; have f5 := hx.tail.tail.head.frozen 0; dsimp only at s5 m5 f5; clear hx)
                refine ⟨kf_set (kf_below HB5.out) _ _, ((KeepC.refl _ _).below HB5.out).set _ (by rw [HWS.out]; show g1 < _; omega) _, ⟨⟨true, fun T => ?_, ?_⟩⟩⟩
                · rw [List.append_assoc, List.singleton_append, HU.out, HM.out]
                · exact get_more HC5.out hsz4 HBB.out
              · have HM := Lib.hid (fun T => lookC_hit (p := (q1, q2)) (T := T) (more := more) e1 hl)
                rw [e1] at SMC
                have hl2 : ¬ ((s.length : Nat) : Int) ≤ ((cc.length : Nat) : Int) := by omega
                clear e1
                have hlc : cc.length < s.length := by omega
                have hl20 : ((cc.length : Nat) : Int) ≤ 20 := by omega
                have hq2 := tabL_lvl (x := ((q1, q2), cc)) (List.IsPrefix.mem (by simp) HSP.out)
                dsimp only at hq2
                have hwn : wrap64 (-q2) = -q2 := by unfold wrap64; omega
                have hg0 : ¬ w.heap.size = g := by have := HBB.out; omega
                have hg1 : ¬ w.heap.size + 1 = g := by have := HBB.out; omega
                have hg2 : ¬ w.heap.size + 2 = g := by have := HBB.out; omega
                have hg3 : ¬ w.heap.size + 3 = g := by have := HBB.out; omega
                have hgd : s.getD cc.length 0 = s[cc.length] := by simp [hlc]
                have HRR := Lib.hid (show r = ((q1, if s[cc.length] == 49 then -q2 else q2), false, (cc.length : Int) + 1, 0) by
                  obtain ⟨t, ht⟩ := HSP.out
                  rw [← HR.out, ← ht, List.append_assoc, HU.out, List.singleton_append, HM.out, hgd])
                have hu8 : (s[cc.length] == 49) = (((s[cc.length].toNat : Nat) : Int) == 49) := u8_eq _
                rw [hu8] at HRR
                clear HM hgd hl hlen hu8 hq2
                cases e2 : (((s[cc.length].toNat : Nat) : Int) == 49) with
                | true =>
                  rw [e2, if_pos rfl] at HRR
                  gi_wp2_with (refine ⟨trivial, ?_⟩; gi_at_call 178; refine (callsIn_wide.2 (SMC.out _)).mono ?_; rintro e w5 ⟨rfl, hb5⟩; have HC5 := Lib.hid (cons_below HC.out hb5); have HB5 := Lib.hid hb5; clear hb5; have hx := HC5.out.2.1; unfold GeL at hx; have p50 := hx.head.cell 0; have p51 := hx.head.cell 1; have s5 := hx.tail.tail.tail.head.cell 0; have p5f := hx.head.frozen 1; unfold GtL at hx; have c1 := hx.tail.tail.tail.tail.head.cell 0; have c1' := hx.tail.tail.tail.tail.head.cell 1; have c2 := hx.tail.tail.tail.tail.tail.head.cell 0; have c3 := hx.tail.tail.tail.tail.tail.tail.head.cell 0; have c4 := hx.tail.tail.tail.tail.tail.tail.tail.head.cell 0; have f1 := hx.tail.tail.tail.tail.head.frozen 0; have f1' := hx.tail.tail.tail.tail.head.frozen 1; have f2 := hx.tail.tail.tail.tail.tail.head.frozen 0; have f3 := hx.tail.tail.tail.tail.tail.tail.head.frozen 0; have f4 := hx.tail.tail.tail.tail.tail.tail.tail.head.frozen 0; dsimp only at p50 p51 s5 p5f c1 c1' c2 c3 c4 f1 f1' f2 f3 f4; clear hx)
                  have hcG := get_far (u := .int .i64 (-q2)) (cons_drop (cons_drop (cons_drop (cons_drop HC5.out)))) (g := g) 1 (by have := HBB.out; omega)
                  obtain ⟨k1, k2⟩ := get_set ((q1, -q2), false, (cc.length : Int) + 1, 0) hcG
                  rw [HRR.out]
                  exact ⟨kf_set (kf_set (kf_set (kf_set (kf_set (kf_set (kf_below HB5.out) _ _) _ _) _ _) _ _) _ _) _ _, rfl, k2, k1, rowsAt_nil _⟩
                | false =>
                  rw [e2, if_neg (by decide)] at HRR
                  gi_wp2_with (refine ⟨trivial, ?_⟩; gi_at_call 178; refine (callsIn_wide.2 (SMC.out _)).mono ?_; rintro e w5 ⟨rfl, hb5⟩; have HC5 := Lib.hid (cons_below HC.out hb5); have HB5 := Lib.hid hb5; clear hb5; have hx := HC5.out.2.1; unfold GeL at hx; have p50 := hx.head.cell 0; have p51 := hx.head.cell 1; have s5 := hx.tail.tail.tail.head.cell 0; have p5f := hx.head.frozen 1; unfold GtL at hx; have c1 := hx.tail.tail.tail.tail.head.cell 0; have c1' := hx.tail.tail.tail.tail.head.cell 1; have c2 := hx.tail.tail.tail.tail.tail.head.cell 0; have c3 := hx.tail.tail.tail.tail.tail.tail.head.cell 0; have c4 := hx.tail.tail.tail.tail.tail.tail.tail.head.cell 0; have f1 := hx.tail.tail.tail.tail.head.frozen 0; have f1' := hx.tail.tail.tail.tail.head.frozen 1; have f2 := hx.tail.tail.tail.tail.tail.head.frozen 0; have f3 := hx.tail.tail.tail.tail.tail.tail.head.frozen 0; have f4 := hx.tail.tail.tail.tail.tail.tail.tail.head.frozen 0; dsimp only at p50 p51 s5 p5f c1 c1' c2 c3 c4 f1 f1' f2 f3 f4; clear hx)
                  obtain ⟨k1, k2⟩ := get_set ((q1, q2), false, (cc.length : Int) + 1, 0) (cons_drop (cons_drop (cons_drop (cons_drop HC5.out))))
                  rw [HRR.out]
                  exact ⟨kf_set (kf_set (kf_set (kf_set (kf_set (kf_below HB5.out) _ _) _ _) _ _) _ _) _ _, rfl, k2, k1, rowsAt_nil _⟩
        case done =>
          rintro D xs W2 hD rfl ⟨⟨more, hu, hc⟩⟩ hK
          cases more with
          | true =>
            have hrr : r = ((0, 0), false, 0, 5) := by
              have h := hu []
              rw [List.append_nil] at h
              rw [← HR.out, h]; rfl
            have HC := Lib.hid hc; have HK := Lib.hid hK; have HRR := Lib.hid hrr
            have hx := hc.2.1
            clear hc hK hrr hu
            unfold GeL GtL at hx
            have m5 := hx.tail.head.cell 0; have c1 := hx.tail.tail.tail.head.cell 0; have c1' := hx.tail.tail.tail.head.cell 1; have c2 := hx.tail.tail.tail.tail.head.cell 0; have c3 := hx.tail.tail.tail.tail.tail.head.cell 0; have c4 := hx.tail.tail.tail.tail.tail.tail.head.cell 0; have f1 := hx.tail.tail.tail.head.frozen 0; have f1' := hx.tail.tail.tail.head.frozen 1; have f2 := hx.tail.tail.tail.tail.head.frozen 0; have f3 := hx.tail.tail.tail.tail.tail.head.frozen 0; have f4 := hx.tail.tail.tail.tail.tail.tail.head.frozen 0; dsimp only at m5 c1 c1' c2 c3 c4 f1 f1' f2 f3 f4; clear hx
            gi_wp2_with fail
            go_wp2_with fail
            obtain ⟨k1, k2⟩ := get_set ((0, 0), false, 0, 5) (cons_drop (cons_drop (cons_drop HC.out)))
            have hK5 := get_def (h := w.heap.size) ((0, 0), false, 0, 5) (by rw [HWS.out] at hD; have := HBB.out; omega) HK.out
            rw [HRR.out]
            exact retM hK5 (v := cgV ((0, 0), false, 0, 5)) (get_res w.heap.size ((0, 0), false, 0, 5) _ _ (cells_put (o' := .deferred none) k1 hK5 rfl) rfl rfl rfl rfl) ⟨rfl, below_put k2 (by rw [HWS.out] at hD; have := HBB.out; omega)⟩
          | false =>
            have hrr : r = ((0, 0), false, 0, 7) := by
              have h := hu []
              rw [List.append_nil] at h
              rw [← HR.out, h]; rfl
            have HC := Lib.hid hc; have HK := Lib.hid hK; have HRR := Lib.hid hrr
            have hx := hc.2.1
            clear hc hK hrr hu
            unfold GeL GtL at hx
            have m5 := hx.tail.head.cell 0; have c1 := hx.tail.tail.tail.head.cell 0; have c1' := hx.tail.tail.tail.head.cell 1; have c2 := hx.tail.tail.tail.tail.head.cell 0; have c3 := hx.tail.tail.tail.tail.tail.head.cell 0; have c4 := hx.tail.tail.tail.tail.tail.tail.head.cell 0; have f1 := hx.tail.tail.tail.head.frozen 0; have f1' := hx.tail.tail.tail.head.frozen 1; have f2 := hx.tail.tail.tail.tail.head.frozen 0; have f3 := hx.tail.tail.tail.tail.tail.head.frozen 0; have f4 := hx.tail.tail.tail.tail.tail.tail.head.frozen 0; dsimp only at m5 c1 c1' c2 c3 c4 f1 f1' f2 f3 f4; clear hx
            gi_wp2_with fail
            go_wp2_with fail
            obtain ⟨k1, k2⟩ := get_set ((0, 0), false, 0, 7) (cons_drop (cons_drop (cons_drop HC.out)))
            have hK5 := get_def (h := w.heap.size) ((0, 0), false, 0, 7) (by rw [HWS.out] at hD; have := HBB.out; omega) HK.out
            rw [HRR.out]
            exact retM hK5 (v := cgV ((0, 0), false, 0, 7)) (get_res w.heap.size ((0, 0), false, 0, 7) _ _ (cells_put (o' := .deferred none) k1 hK5 rfl) rfl rfl rfl rfl) ⟨rfl, below_put k2 (by rw [HWS.out] at hD; have := HBB.out; omega)⟩
        case stop =>
          rintro D cd pre W2 hD hsp ⟨rfl, hbel, hcs, _⟩ hK
          have HBel := Lib.hid hbel; have HCS := Lib.hid hcs; have HK := Lib.hid hK
          clear hbel hcs hK hsp
          gi_wp2_with fail
          exact retM HK.out (v := cgV r) (get_res w.heap.size r _ _ (cells_put (o' := .deferred none) HCS.out HK.out rfl) rfl rfl rfl rfl) ⟨rfl, below_put HBel.out (by rw [HWS.out] at hD; have := HBB.out; omega)⟩
    | true =>
      rw [if_neg (show ¬ ((!true && endC.isPrefixOf s) = true) by simp), show (!true && sameB s endC) = false from rfl] at hr
      have HR := Lib.hid hr
      clear hr he
      go_wp2_with (first | (go_at_call 158; refine (coeff_table true _).mono ?_; rintro e w' ⟨rfl, rfl⟩) | fail)
      obtain ⟨hcB, hsz4⟩ : Cons w ((w3.heap.size + 1, 4, #[.bool true]) :: (w3.heap.size, 4, #[.bool false]) :: (b, 9, #[.string (bs s)]) :: GtL w.heap.size ((0, 0), false, 0, 0)) [] ((w3.alloc (.cells #[.bool false] 4)).alloc (.cells #[.bool true] 4)) ∧ b < w3.heap.size := by
        refine ⟨cons_cell (cons_alloc (cons_cell (cons_alloc HC3.out _) (Blk.new _ _ _)) _) (blkAt (Blk.new _ _ _) (by simp)), HC3.out.2.1.head.lt⟩
      obtain ⟨g1, hg1⟩ : ∃ g1, w3.heap.size = g1 := ⟨_, rfl⟩
      rw [hg1] at hcB hsz4 ⊢
      obtain ⟨W, hW⟩ : ∃ W, (w3.alloc (.cells #[.bool false] 4)).alloc (.cells #[.bool true] 4) = W := ⟨_, rfl⟩
      have hWs : W.heap.size = g1 + 2 := by rw [← hW]; simp; omega
      rw [hW] at hcB ⊢
      clear hW hg1
      have HCB := Lib.hid hcB
      have HWS := Lib.hid hWs
      clear hcB hWs
      refine (wpIn_wide (n := 5)).1 ?_
      refine wp_gF (α := (Int × Int) × List UInt8) (enc := encT) (I := ICons w (fun pre (more : Bool) => ∀ T, lookC s (pre ++ T) false = lookC s T more) (fun _ more => GeL w.heap.size g1 b true more s) (fun _ _ => [])) (I2 := ICons w (fun pre (more : Bool) => ∀ T, lookC s (pre ++ T) false = lookC s T more) (fun _ more => GeL w.heap.size g1 b true more s) (fun _ _ => [])) (S := fun xs => xs = tabL true) (Sp := fun pre => pre <+: tabL true)
        rfl (by decide) (gf := 171) (lb := #[.pointer (some ⟨g1 + 1, 0, none⟩)]) rfl trivial (enters_of Tryz.func171 (by kernel_rfl) rfl)
        (table_seq 4 (by decide) (g1 + 1) true _ ic_below ?hIs) (fun _ => rfl)
        (fun cd _ W => RetC w (GtL w.heap.size r) cd W)
        (fun pre x g W => ICons w (fun pre (more : Bool) => (∀ T, lookC s (pre ++ T) false = lookC s T more) ∧ b < g) (fun _ more => (g, 109, #[.int .i64 x.1.1, .int .i64 x.1.2]) :: GeL w.heap.size g1 b true more s) (fun _ _ => []) pre W)
        (own_ic HCB.out.1.size _ _ _) (own_ic HCB.out.1.size _ _ _) (fun cd => own_retC HCB.out.1.size _ _) (fun x g => own_ic HCB.out.1.size _ _ _) ?start ?round ?done ?stop
      case hIs =>
        rintro pre W' ⟨⟨_, _, hc⟩⟩
        exact ⟨hc.2.1.head, HT.out.below hc.1⟩
      case start => exact ⟨⟨false, fun T => rfl, HCB.out⟩⟩
      case round =>
        apply Exists.intro
        refine And.intro ?_ ?_
        · rintro lp pre x W' ⟨⟨u, hu, hc⟩⟩ hsp
          have HU := Lib.hid hu; have HC := Lib.hid hc
          clear hu hc hsp
          unfold encT
          gi_wp2
          obtain ⟨g0, hg0⟩ : ∃ g0, W'.heap.size = g0 := ⟨_, rfl⟩
          have hcc := cons_cell (cons_alloc HC.out (.cells #[.int .i64 x.1.1, .int .i64 x.1.2] 109)) (blkAt (Blk.new W' 109 #[.int .i64 x.1.1, .int .i64 x.1.2]) hg0)
          rw [hg0]
          exact ⟨⟨g0, rfl, ⟨u, ⟨HU.out, hg0 ▸ HC.out.2.1.tail.tail.head.lt⟩, hcc⟩⟩, kf_alloc (KeepsFrom.refl _ _) _, (KeepC.refl _ _).alloc _⟩
        · rintro lp pre x g W' ⟨⟨more, ⟨hu, hbg⟩, hc⟩⟩ hsp
          obtain ⟨⟨q1, q2⟩, cc⟩ := x
          dsimp only at hc
          have hs := hc.2.1
          unfold GeL at hs
          have s0 := hs.tail.tail.tail.head.cell 0
          dsimp only at s0
          have SMC := Lib.hid (fun W => coeff_same s cc W)
          have HC := Lib.hid hc; have HU := Lib.hid hu; have HSP := Lib.hid hsp
          clear hc hu hsp hs
          cases e1 : sameB s cc with
          | false =>
            have HM := Lib.hid (fun T => lookC_no (p := (q1, q2)) (T := T) (more := more) e1)
            rw [e1] at SMC
            clear e1
            gi_wp2_with (refine ⟨trivial, ?_⟩; gi_at_call 178; refine (callsIn_wide.2 (SMC.out _)).mono ?_; rintro e w5 ⟨rfl, hb5⟩; have HB5 := Lib.hid hb5; clear hb5)
            refine ⟨kf_below HB5.out, (KeepC.refl _ _).below HB5.out, ⟨⟨more, fun T => ?_, cons_below (cons_drop HC.out) HB5.out⟩⟩⟩
            rw [List.append_assoc, List.singleton_append, HU.out, HM.out]
          | true =>
            by_cases hl : s.length ≤ cc.length
            · have HM := Lib.hid (fun T => lookC_short (p := (q1, q2)) (T := T) (more := more) e1 hl)
              rw [e1] at SMC
              have hl2 : ((s.length : Nat) : Int) ≤ ((cc.length : Nat) : Int) := by omega
              clear e1 hl
              gi_wp2_with (refine ⟨trivial, ?_⟩; gi_at_call 178; refine (callsIn_wide.2 (SMC.out _)).mono ?_; rintro e w5 ⟨rfl, hb5⟩; have HC5 := Lib.hid (cons_below HC.out hb5); have HB5 := Lib.hid hb5; clear hb5; have hx := HC5.out.2.1; unfold GeL at hx; have s5 := hx.tail.tail.tail.head.cell 0; have m5 := hx.tail.tail.head.cell 0; have f5 := hx.tail.tail.head.frozen 0; dsimp only at s5 m5 f5; clear hx)
              refine ⟨kf_set (kf_below HB5.out) _ _, ((KeepC.refl _ _).below HB5.out).set _ (by rw [HWS.out]; show g1 < _; omega) _, ⟨⟨true, fun T => ?_, ?_⟩⟩⟩
              · rw [List.append_assoc, List.singleton_append, HU.out, HM.out]
              · exact get_more HC5.out hsz4 HBB.out
            · have HM := Lib.hid (fun T => lookC_hit (p := (q1, q2)) (T := T) (more := more) e1 hl)
              rw [e1] at SMC
              have hl2 : ¬ ((s.length : Nat) : Int) ≤ ((cc.length : Nat) : Int) := by omega
              clear e1
              have hlc : cc.length < s.length := by omega
              have hl20 : ((cc.length : Nat) : Int) ≤ 20 := by omega
              have hq2 := tabL_lvl (x := ((q1, q2), cc)) (List.IsPrefix.mem (by simp) HSP.out)
              dsimp only at hq2
              have hwn : wrap64 (-q2) = -q2 := by unfold wrap64; omega
              have hg0 : ¬ w.heap.size = g := by have := HBB.out; omega
              have hg1 : ¬ w.heap.size + 1 = g := by have := HBB.out; omega
              have hg2 : ¬ w.heap.size + 2 = g := by have := HBB.out; omega
              have hg3 : ¬ w.heap.size + 3 = g := by have := HBB.out; omega
              have hgd : s.getD cc.length 0 = s[cc.length] := by simp [hlc]
              have HRR := Lib.hid (show r = ((q1, if s[cc.length] == 49 then -q2 else q2), false, (cc.length : Int) + 1, 0) by
                obtain ⟨t, ht⟩ := HSP.out
                rw [← HR.out, ← ht, List.append_assoc, HU.out, List.singleton_append, HM.out, hgd])
              have hu8 : (s[cc.length] == 49) = (((s[cc.length].toNat : Nat) : Int) == 49) := u8_eq _
              rw [hu8] at HRR
              clear HM hgd hl hlen hu8 hq2
              cases e2 : (((s[cc.length].toNat : Nat) : Int) == 49) with
              | true =>
                rw [e2, if_pos rfl] at HRR
                gi_wp2_with (refine ⟨trivial, ?_⟩; gi_at_call 178; refine (callsIn_wide.2 (SMC.out _)).mono ?_; rintro e w5 ⟨rfl, hb5⟩; have HC5 := Lib.hid (cons_below HC.out hb5); have HB5 := Lib.hid hb5; clear hb5; have hx := HC5.out.2.1; unfold GeL at hx; have p50 := hx.head.cell 0; have p51 := hx.head.cell 1; have s5 := hx.tail.tail.tail.head.cell 0; have p5f := hx.head.frozen 1; unfold GtL at hx; have c1 := hx.tail.tail.tail.tail.head.cell 0; have c1' := hx.tail.tail.tail.tail.head.cell 1; have c2 := hx.tail.tail.tail.tail.tail.head.cell 0; have c3 := hx.tail.tail.tail.tail.tail.tail.head.cell 0; have c4 := hx.tail.tail.tail.tail.tail.tail.tail.head.cell 0; have f1 := hx.tail.tail.tail.tail.head.frozen 0; have f1' := hx.tail.tail.tail.tail.head.frozen 1; have f2 := hx.tail.tail.tail.tail.tail.head.frozen 0; have f3 := hx.tail.tail.tail.tail.tail.tail.head.frozen 0; have f4 := hx.tail.tail.tail.tail.tail.tail.tail.head.frozen 0; dsimp only at p50 p51 s5 p5f c1 c1' c2 c3 c4 f1 f1' f2 f3 f4; clear hx)
                have hcG := get_far (u := .int .i64 (-q2)) (cons_drop (cons_drop (cons_drop (cons_drop HC5.out)))) (g := g) 1 (by have := HBB.out; omega)
                obtain ⟨k1, k2⟩ := get_set ((q1, -q2), false, (cc.length : Int) + 1, 0) hcG
                rw [HRR.out]
                exact ⟨kf_set (kf_set (kf_set (kf_set (kf_set (kf_set (kf_below HB5.out) _ _) _ _) _ _) _ _) _ _) _ _, rfl, k2, k1, rowsAt_nil _⟩
              | false =>
                rw [e2, if_neg (by decide)] at HRR
                gi_wp2_with (refine ⟨trivial, ?_⟩; gi_at_call 178; refine (callsIn_wide.2 (SMC.out _)).mono ?_; rintro e w5 ⟨rfl, hb5⟩; have HC5 := Lib.hid (cons_below HC.out hb5); have HB5 := Lib.hid hb5; clear hb5; have hx := HC5.out.2.1; unfold GeL at hx; have p50 := hx.head.cell 0; have p51 := hx.head.cell 1; have s5 := hx.tail.tail.tail.head.cell 0; have p5f := hx.head.frozen 1; unfold GtL at hx; have c1 := hx.tail.tail.tail.tail.head.cell 0; have c1' := hx.tail.tail.tail.tail.head.cell 1; have c2 := hx.tail.tail.tail.tail.tail.head.cell 0; have c3 := hx.tail.tail.tail.tail.tail.tail.head.cell 0; have c4 := hx.tail.tail.tail.tail.tail.tail.tail.head.cell 0; have f1 := hx.tail.tail.tail.tail.head.frozen 0; have f1' := hx.tail.tail.tail.tail.head.frozen 1; have f2 := hx.tail.tail.tail.tail.tail.head.frozen 0; have f3 := hx.tail.tail.tail.tail.tail.tail.head.frozen 0; have f4 := hx.tail.tail.tail.tail.tail.tail.tail.head.frozen 0; dsimp only at p50 p51 s5 p5f c1 c1' c2 c3 c4 f1 f1' f2 f3 f4; clear hx)
                obtain ⟨k1, k2⟩ := get_set ((q1, q2), false, (cc.length : Int) + 1, 0) (cons_drop (cons_drop (cons_drop (cons_drop HC5.out))))
                rw [HRR.out]
                exact ⟨kf_set (kf_set (kf_set (kf_set (kf_set (kf_below HB5.out) _ _) _ _) _ _) _ _) _ _, rfl, k2, k1, rowsAt_nil _⟩
      case done =>
        rintro D xs W2 hD rfl ⟨⟨more, hu, hc⟩⟩ hK
        cases more with
        | true =>
          have hrr : r = ((0, 0), false, 0, 5) := by
            have h := hu []
            rw [List.append_nil] at h
            rw [← HR.out, h]; rfl
          have HC := Lib.hid hc; have HK := Lib.hid hK; have HRR := Lib.hid hrr
          have hx := hc.2.1
          clear hc hK hrr hu
          unfold GeL GtL at hx
          have m5 := hx.tail.head.cell 0; have c1 := hx.tail.tail.tail.head.cell 0; have c1' := hx.tail.tail.tail.head.cell 1; have c2 := hx.tail.tail.tail.tail.head.cell 0; have c3 := hx.tail.tail.tail.tail.tail.head.cell 0; have c4 := hx.tail.tail.tail.tail.tail.tail.head.cell 0; have f1 := hx.tail.tail.tail.head.frozen 0; have f1' := hx.tail.tail.tail.head.frozen 1; have f2 := hx.tail.tail.tail.tail.head.frozen 0; have f3 := hx.tail.tail.tail.tail.tail.head.frozen 0; have f4 := hx.tail.tail.tail.tail.tail.tail.head.frozen 0; dsimp only at m5 c1 c1' c2 c3 c4 f1 f1' f2 f3 f4; clear hx
          gi_wp2_with fail
          go_wp2_with fail
          obtain ⟨k1, k2⟩ := get_set ((0, 0), false, 0, 5) (cons_drop (cons_drop (cons_drop HC.out)))
          have hK5 := get_def (h := w.heap.size) ((0, 0), false, 0, 5) (by rw [HWS.out] at hD; have := HBB.out; omega) HK.out
          rw [HRR.out]
          exact retM hK5 (v := cgV ((0, 0), false, 0, 5)) (get_res w.heap.size ((0, 0), false, 0, 5) _ _ (cells_put (o' := .deferred none) k1 hK5 rfl) rfl rfl rfl rfl) ⟨rfl, below_put k2 (by rw [HWS.out] at hD; have := HBB.out; omega)⟩
        | false =>
          have hrr : r = ((0, 0), false, 0, 7) := by
            have h := hu []
            rw [List.append_nil] at h
            rw [← HR.out, h]; rfl
          have HC := Lib.hid hc; have HK := Lib.hid hK; have HRR := Lib.hid hrr
          have hx := hc.2.1
          clear hc hK hrr hu
          unfold GeL GtL at hx
          have m5 := hx.tail.head.cell 0; have c1 := hx.tail.tail.tail.head.cell 0; have c1' := hx.tail.tail.tail.head.cell 1; have c2 := hx.tail.tail.tail.tail.head.cell 0; have c3 := hx.tail.tail.tail.tail.tail.head.cell 0; have c4 := hx.tail.tail.tail.tail.tail.tail.head.cell 0; have f1 := hx.tail.tail.tail.head.frozen 0; have f1' := hx.tail.tail.tail.head.frozen 1; have f2 := hx.tail.tail.tail.tail.head.frozen 0; have f3 := hx.tail.tail.tail.tail.tail.head.frozen 0; have f4 := hx.tail.tail.tail.tail.tail.tail.head.frozen 0; dsimp only at m5 c1 c1' c2 c3 c4 f1 f1' f2 f3 f4; clear hx
          gi_wp2_with fail
          go_wp2_with fail
          obtain ⟨k1, k2⟩ := get_set ((0, 0), false, 0, 7) (cons_drop (cons_drop (cons_drop HC.out)))
          have hK5 := get_def (h := w.heap.size) ((0, 0), false, 0, 7) (by rw [HWS.out] at hD; have := HBB.out; omega) HK.out
          rw [HRR.out]
          exact retM hK5 (v := cgV ((0, 0), false, 0, 7)) (get_res w.heap.size ((0, 0), false, 0, 7) _ _ (cells_put (o' := .deferred none) k1 hK5 rfl) rfl rfl rfl rfl) ⟨rfl, below_put k2 (by rw [HWS.out] at hD; have := HBB.out; omega)⟩
      case stop =>
        rintro D cd pre W2 hD hsp ⟨rfl, hbel, hcs, _⟩ hK
        have HBel := Lib.hid hbel; have HCS := Lib.hid hcs; have HK := Lib.hid hK
        clear hbel hcs hK hsp
        gi_wp2_with fail
        exact retM HK.out (v := cgV r) (get_res w.heap.size r _ _ (cells_put (o' := .deferred none) HCS.out HK.out rfl) rfl rfl rfl rfl) ⟨rfl, below_put HBel.out (by rw [HWS.out] at hD; have := HBB.out; omega)⟩
end Go.Proofs.YtcojnigkgbmbmaaGreatDoor
