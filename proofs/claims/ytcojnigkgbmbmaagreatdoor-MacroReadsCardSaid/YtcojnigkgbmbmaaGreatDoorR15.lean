/- PfxI, PfxG, PfxM -/
import Derived.Test.YtcojnigkgbmbmaaGreatDoorR03
import Derived.Test.YtcojnigkgbmbmaaGreatDoorR14
import Derived.Test.YtcojnigkgbmbmaaGreatDoorR01
import Derived.Test.YtcojnigkgbmbmaaGreatDoorR10
import Derived.Test.YtcojnigkgbmbmaaGreatDoorR07
namespace Go.Proofs.YtcojnigkgbmbmaaGreatDoor
open Go Go.RowKit
attribute [local go_sem] Oper.semAt_some
def bitsN (l : List UInt8) (i n : Nat) : List Nat := (List.range n).map fun j => bitN l (i + j)
theorem bitsN_length (l : List UInt8) (i n : Nat) : (bitsN l i n).length = n := by simp [bitsN]
theorem bitsN_pre (l : List UInt8) (i n : Nat) (pre : List Nat) (x : Nat) (h : pre ++ [x] <+: bitsN l i n) : pre.length < n ∧ x = bitN l (i + pre.length) := by
  have h1 := h.length_le
  rw [bitsN_length] at h1
  simp at h1
  refine ⟨by omega, ?_⟩
  obtain ⟨t, ht⟩ := h
  have h2 : (pre ++ [x] ++ t)[pre.length]? = (bitsN l i n)[pre.length]? := by rw [ht]
  rw [List.append_assoc, List.getElem?_append_right (Nat.le_refl _)] at h2
  simp [bitsN, List.getElem?_map, List.getElem?_range (show pre.length < n by omega)] at h2
  exact h2
theorem bitsN_take (l : List UInt8) (i n k : Nat) (h : k < n) : (bitsN l i n).take k ++ [bitN l (i + k)] = (bitsN l i n).take (k + 1) := by
  rw [List.take_succ_eq_append_getElem (by rw [bitsN_length]; exact h)]
  simp [bitsN]
def curInt (b : Nat) (w : World) : Int := match w.cell? ⟨b, 0, none⟩ with | some (.int .i64 x) => x | _ => 0
theorem curInt_blk {w : World} {b : Nat} {t : TypeId} {x : Int} (h : Blk w b t #[.int .i64 x]) : curInt b w = x := by
  unfold curInt
  rw [h.cell 0]
  rfl
set_option maxRecDepth 100000 in
set_option maxHeartbeats 2000000 in
theorem from_seq (n : Nat) (hn : 1 ≤ n) (b1 b2 : Nat) (A : Option Addr) (m c : Nat) (l : List UInt8) (i0 : Nat) (hl : l.length = m) (hsz : m ≤ 2 ^ 47) (C : List Nat → World → Prop)
    (hC : ∀ pre W v, C pre W → C pre (W.setCell ⟨b2, 0, none⟩ v)) (hCs : ∀ pre W, C pre W → Blk W b1 22 #[.slice A m c] ∧ Sl W A (l.map byteV)) :
    SeqU Fence.wide n Tryz.prog 176 #[.pointer (some ⟨b1, 0, none⟩), .pointer (some ⟨b2, 0, none⟩)] (fun x : Nat => #[.int .i64 x]) (fun pre W => C pre W ∧ Blk W b2 3 #[.int .i64 ((i0 + pre.length : Nat) : Int)])
      (fun pre W => C pre W ∧ Blk W b2 3 #[.int .i64 ((i0 + pre.length - 1 : Nat) : Int)]) (fun xs => xs = bitsN l i0 (8 * m - i0)) (fun pre => pre <+: bitsN l i0 (8 * m - i0)) := by
  intro lp K Jx W hK hY h0 hk0
  refine callsIn_of_wp Tryz.func176 rfl trivial ?_ rfl
  simp only [Tryz.ntmps176, List.size_toArray, List.length_cons, List.length_nil, Nat.reduceAdd, Nat.reduceSub, Array.replicate_succ, Array.replicate_zero, List.push_toArray, List.append_toArray, List.nil_append, List.cons_append]
  have HY := Lib.hid hY; have HC := Lib.hid hC; have HCs := Lib.hid hCs; have HK := Lib.hid hK; have HL := Lib.hid hl
  have H0 := Lib.hid h0; have HK0 := Lib.hid hk0
  clear hY hC hCs hK hl h0 hk0
  gi_wp2_with fail
  gi_loopw [] (fun wr => ∃ j : Nat, Hid (C ((bitsN l i0 (8 * m - i0)).take j) wr) ∧ Hid (Blk wr b2 3 #[.int .i64 ((i0 + j : Nat) : Int)]) ∧ j ≤ 8 * m - i0 ∧ Hid (K wr)) (fun wr => 8 * m - (curInt b2 wr).toNat)
  case atStart =>
    exact ⟨0, Lib.hid H0.out.1, Lib.hid H0.out.2, Nat.zero_le _, HK0⟩
  case round =>
    obtain ⟨j, HCj, HB, hj, HKr⟩ := hrel
    have x2 := HB.out.cell 0
    obtain ⟨hb1, hA⟩ := HCs.out _ _ HCj.out
    have x1 := hb1.cell 0
    have HA := Lib.hid hA
    clear hb1 hA
    obtain ⟨p, hp⟩ : ∃ p, p = i0 + j := ⟨_, rfl⟩
    have hp0 : (0 : Int) ≤ (p : Int) := by omega
    rw [← hp] at x2
    by_cases hlt : p < 8 * m
    · have Rd := Lib.hid (fun W h => bits_Read_v ((bitN l p : Nat) : Int) A m c l (p : Int) 1 W (by rw [Int.toNat_natCast]; show ((numN l p 1 : Nat) : Int) = _; rw [numN_one]) h HL.out hp0 (by decide) (by decide) (by omega) hsz)
      have hjn : j < 8 * m - i0 := by omega
      have hsp : (bitsN l i0 (8 * m - i0)).take j ++ [bitN l p] <+: bitsN l i0 (8 * m - i0) := by rw [hp, bitsN_take _ _ _ _ hjn]; exact List.take_prefix _ _
      have htl : ((bitsN l i0 (8 * m - i0)).take j).length = j := by rw [List.length_take, bitsN_length]; omega
      obtain ⟨fn, tmps, assign, body, hy, hR⟩ := HY.out _ (bitN l p) wr ⟨HCj.out, by rw [htl]; exact HB.out⟩ HKr.out hsp
      have HR := Lib.hid hR
      have HJN := Lib.hid hjn; have HP := Lib.hid hp; have HSP := Lib.hid hsp; have HTL := Lib.hid htl; have HLT := Lib.hid hlt
      clear hR hjn hp hsp htl hlt hj
      gi_wp2_with (refine ⟨trivial, ?_⟩; gi_at_call 110; refine (callsIn_wide.2 (Rd.out _ HA.out)).mono ?_; rintro e w' ⟨rfl, rfl⟩)
      refine HR.out.mono ?_
      rintro e W3 (⟨rfl, hI3, hk3⟩ | ⟨rfl, hJx3⟩)
      · have hb3 : Blk W3 b2 3 #[.int .i64 (p : Int)] := by
          have h := hI3.2
          rw [List.length_append, HTL.out] at h
          rw [HP.out]; simpa using h
        have y2 := hb3.cell 0
        have g2 := hb3.frozen 0
        have hw1 : IntKind.i64.wrap ((p : Int) + 1) = (p : Int) + 1 := by have := HLT.out; rw [IntKind.wrap_i64]; omega
        have HB3 := Lib.hid hb3; have HI3 := Lib.hid hI3.1; have HK3 := Lib.hid hk3
        clear hb3 hI3 hk3
        have HS := Lib.hid (HB3.out.set_ 0 (.int .i64 ((p : Int) + 1)))
        have HC3 := Lib.hid (HC.out _ _ (.int .i64 ((p : Int) + 1)) HI3.out)
        have HKS := Lib.hid (HK.out.set HK3.out HB3.out (v := .int .i64 ((p + 1 : Nat) : Int)) (p := ⟨b2, 0, none⟩))
        gi_wp2_with fail
        have h5 := HP.out; have h6 := HLT.out; have h7 := HJN.out
        refine ⟨⟨j + 1, ?_, Lib.hid ?_, by omega, HKS⟩, ?_⟩
        · rw [← bitsN_take _ _ _ _ h7, ← h5]; exact HC3
        · rw [show ((i0 + (j + 1) : Nat) : Int) = (p : Int) + 1 by omega]; exact HS.out
        · have h9 := curInt_blk HS.out; have h10 := curInt_blk HB.out
          rw [h9, h10, ← h5]; omega
      · gi_wp2_with fail
        refine bodyPost_ret (results_none rfl _ _ _) rfl ?_
        exact ⟨⟨_, rfl⟩, .inr ⟨_, HSP.out, hJx3⟩⟩
    · have Rd := Lib.hid (fun W => bits_Read_more A m c (p : Int) 1 W hp0 (by decide) (by decide) (by omega) hsz)
      have hje : j = 8 * m - i0 := by omega
      have HCe : Hid (C (bitsN l i0 (8 * m - i0)) wr ∧ Blk wr b2 3 #[.int .i64 ((i0 + (bitsN l i0 (8 * m - i0)).length : Nat) : Int)]) := Lib.hid ⟨by have h := HCj.out; rwa [List.take_of_length_le (by rw [bitsN_length]; omega)] at h, by rw [bitsN_length, ← hje]; exact HB.out⟩
      clear hje hp hj hlt
      gi_wp2_with (refine ⟨trivial, ?_⟩; gi_at_call 110; refine (callsIn_wide.2 (Rd.out _)).mono ?_; rintro e w' ⟨rfl, rfl⟩)
      refine ⟨fun _ h => (by cases h), ?_⟩
      gi_wp2_with fail
      refine bodyPost_ret (results_none rfl _ _ _) rfl ?_
      exact ⟨⟨_, rfl⟩, .inl ⟨_, rfl, HCe.out, HKr.out⟩⟩
end Go.Proofs.YtcojnigkgbmbmaaGreatDoor
namespace Go.Proofs.YtcojnigkgbmbmaaGreatDoor
open Go Go.RowKit
attribute [local go_sem] Oper.semAt_some
theorem prefix_from (s : Value) (i : Int) (w : World) (hs : ∃ A m c, s = .slice A m c) : Calls Tryz.prog 164 #[s, .int .i64 i] w fun e w' => e = .returned (.func (.func 176) #[] #[.pointer (some ⟨w.heap.size, 0, none⟩), .pointer (some ⟨w.heap.size + 1, 0, none⟩)]) ∧
    (w.alloc (.cells #[s] 22)).alloc (.cells #[.int .i64 i] 3) = w' := by
  obtain ⟨A, m, c, rfl⟩ := hs
  go_enter Tryz.func164, Tryz.ntmps164
  go_wp2_with fail
  go_ret
  exact ⟨rfl, rfl⟩
def GetC (N : List Nd) (l : List UInt8) (i m : Nat) (R : Int × Int × Int) (pre : List Nat) (k : Nat) : Prop :=
  k < N.length ∧ walkT N k (bitsL l (i + pre.length) (m - pre.length)) (pre.length : Int) = R
def getL (h T : Nat) (N : List Nd) (A : Option Addr) (n c : Nat) (pre : List Nat) (k : Nat) : List CellF :=
  [(h, 118, #[.pointer (some ⟨T, 0, none⟩)]), (h + 1, 3, #[.int .i64 0]), (h + 2, 3, #[.int .i64 0]), (h + 3, 30, #[.int .i64 0]), (h + 4, 182, (ndC (N.getD k nd0)).toArray), (h + 5, 3, #[.int .i64 (pre.length : Int)]), (h + 6, 22, #[.slice A n c])]
theorem get_step {N : List Nd} {q k m : Nat} {l : List UInt8} {R : Int × Int × Int} {pre : List Nat} (hpl : pre.length < m) (h : walkT N q (bitsL l (k + pre.length) (m - pre.length)) (pre.length : Int) = R) (tt : Nat) (ht : (N.getD q nd0).to (bitC l (k + pre.length)) = tt) :
    (tt = 0 → R = (0, 0, 7)) ∧ (tt ≠ 0 → (N.getD tt nd0).leaf = true → R = ((N.getD tt nd0).num, ((pre.length + 1 : Nat) : Int), 0)) ∧ (tt ≠ 0 → (N.getD tt nd0).leaf = false → walkT N tt (bitsL l (k + (pre.length + 1)) (m - (pre.length + 1))) ((pre.length + 1 : Nat) : Int) = R) := by
  obtain ⟨m', hm'⟩ : ∃ m', m - pre.length = m' + 1 := ⟨m - pre.length - 1, by omega⟩
  rw [hm', bitsL_cons, walkT, ht] at h
  refine ⟨fun e => ?_, fun e hl => ?_, fun e hl => ?_⟩
  · rw [if_pos e] at h; exact h.symm
  · rw [if_neg e, if_pos hl] at h; exact h.symm
  · rw [if_neg e, if_neg (by rw [hl]; decide)] at h
    rw [show m - (pre.length + 1) = m' by omega]
    exact h
theorem nd_to_bit (x : Nd) (l : List UInt8) (p : Nat) : ((ndC x).toArray)[bitN l p]? = some (.int .i64 ((x.to (bitC l p) : Nat) : Int)) := by
  have := bitN_lt l p
  unfold Nd.to bitC
  by_cases h : bitN l p = 0
  · rw [if_pos h, h]; rfl
  · have h1 : bitN l p = 1 := by omega
    rw [if_neg h, h1]; rfl
set_option maxRecDepth 100000 in
set_option maxHeartbeats 4000000 in
theorem prefix_Get (w : World) (base T : Nat) (N : List Nd) (D : DataW Value) (many : Nat) (h : PTree w base T N D many) (hm : many ≠ 0) (hwf : wfN N = true) (hN : 0 < N.length) (A : Option Addr) (n c : Nat) (l : List UInt8) (i : Int) (hA : Sl w A (l.map byteV)) (hn : l.length = n) (hsz : n ≤ 2 ^ 47) (hi : -9223372036854775808 ≤ i ∧ i ≤ 9223372036854775807) :
    Calls Tryz.prog 141 #[.pointer (some ⟨T, 0, none⟩), .slice A n c, .int .i64 i] w fun e w' => e = .returned (.tuple #[.int .i64 (if i < 0 then ((0, 0, 3) : Int × Int × Int) else walkT N 0 (bitsL l i.toNat (8 * n - i.toNat)) 0).1, .int .i64 (if i < 0 then ((0, 0, 3) : Int × Int × Int) else walkT N 0 (bitsL l i.toNat (8 * n - i.toNat)) 0).2.1, .int .i64 (if i < 0 then ((0, 0, 3) : Int × Int × Int) else walkT N 0 (bitsL l i.toNat (8 * n - i.toNat)) 0).2.2]) ∧ Below w.heap.size w w' := by
  have HN := Lib.hid (fun (W : World) (hb : Below w.heap.size w W) => prefix_none W base T N D many (h.later hb) hm)
  by_cases h1 : i < 0
  · have e1 : decide (i < 0) = true := by simpa using h1
    rw [if_pos h1]
    clear h hN
    refine (callsIn_wide (n := 5)).1 ?_
    refine callsIn_of_wp_marks Tryz.func141 rfl trivial ?_ rfl
    simp only [Tryz.ntmps141, List.size_toArray, List.length_cons, List.length_nil, Nat.reduceAdd, Nat.reduceSub, Array.replicate_succ, Array.replicate_zero, List.push_toArray, List.append_toArray, List.nil_append, List.cons_append]
    refine wpIn_wide.2 ?_
    go_wp2_with (go_at_call 126; refine (HN.out _ ((((Below.refl _ _).alloc (Nat.le_refl _) _).alloc (by simp) _ |>.alloc (by simp; omega) _).alloc (by simp; omega) _)).mono ?_; rintro e w' ⟨rfl, rfl⟩)
    refine retN (v := .tuple #[.int .i64 0, .int .i64 0, .int .i64 3]) (by simp [results, Tryz.results141, go_sem]) ?_
    refine ⟨rfl, ?_⟩
    exact (((((Below.refl _ _).alloc (Nat.le_refl _) _).alloc (by simp) _).alloc (by simp; omega) _).alloc (by simp; omega) _)
  have e1 : decide (i < 0) = false := by simpa using h1
  rw [if_neg h1]
  obtain ⟨k, rfl⟩ := Int.eq_ofNat_of_zero_le (by omega : 0 ≤ i)
  rw [Int.toNat_natCast]
  generalize hR : walkT N 0 (bitsL l k (8 * n - k)) 0 = R
  have hb4 : Below w.heap.size w ((((w.alloc (.cells #[.pointer (some ⟨T, 0, none⟩)] 118)).alloc (.cells #[.int .i64 0] 3)).alloc (.cells #[.int .i64 0] 3)).alloc (.cells #[.int .i64 0] 30)) :=
    ((((Below.refl _ _).alloc (Nat.le_refl _) _).alloc (by simp) _).alloc (by simp; omega) _).alloc (by simp; omega) _
  obtain ⟨gb, cap, mb, hbg, hlt, hc1, hc2, hP, hBt, hRow, hMap, hbm, hbT⟩ := tree_open (h.later hb4) hN
  obtain ⟨c0, c1, c2, n0, n1, n2, n3⟩ := hP
  simp only [Nat.zero_mul, Nat.zero_add] at n0 n1 n2 n3
  rw [← nd_get hN] at n0 n1 n2 n3
  have HT := Lib.hid h; have HA := Lib.hid hA; have HR := Lib.hid hR; have Hn := Lib.hid hn; have HWF := Lib.hid hwf; have HB := Lib.hid hBt; have HL := Lib.hid hN
  have Cf := Lib.hid (fun W => prefix_from (.slice A n c) (k : Int) W ⟨_, _, _, rfl⟩)
  have hNl : (0 : Int) < (N.length : Int) := by omega
  clear h hA hR hn hwf hBt hRow hMap hN hb4
  refine (callsIn_wide (n := 5)).1 ?_
  refine callsIn_of_wp_marks Tryz.func141 rfl trivial ?_ rfl
  simp only [Tryz.ntmps141, List.size_toArray, List.length_cons, List.length_nil, Nat.reduceAdd, Nat.reduceSub, Array.replicate_succ, Array.replicate_zero, List.push_toArray, List.append_toArray, List.nil_append, List.cons_append]
  refine wpIn_wide.2 ?_
  go_wp2_with (first
    | (go_at_call 126; refine (HN.out _ ((((Below.refl _ _).alloc (Nat.le_refl _) _).alloc (by simp) _ |>.alloc (by simp; omega) _).alloc (by simp; omega) _)).mono ?_; rintro e w' ⟨rfl, rfl⟩)
    | (go_at_call 164; refine (Cf.out _).mono ?_; rintro e w' ⟨rfl, rfl⟩))
  obtain ⟨h, hh⟩ : ∃ h, h = w.heap.size := ⟨_, rfl⟩
  simp only [Nat.add_assoc, Nat.reduceAdd]
  refine (wpIn_wide (n := 5)).1 ?_
  refine wp_uF (α := Nat) (enc := fun x => #[.int .i64 x]) (I := fun pre W => (∃ q, GetC N l k (8 * n - k) R pre q ∧ Cons w (getL w.heap.size T N A n c pre q) [] W) ∧ Blk W (w.heap.size + 7) 3 #[.int .i64 ((k + pre.length : Nat) : Int)])
    (I2 := fun pre W => (∃ q, GetC N l k (8 * n - k) R pre q ∧ Cons w (getL w.heap.size T N A n c pre q) [] W) ∧ Blk W (w.heap.size + 7) 3 #[.int .i64 ((k + pre.length - 1 : Nat) : Int)]) (S := fun xs => xs = bitsN l k (8 * n - k)) (Sp := fun pre => pre <+: bitsN l k (8 * n - k))
    rfl (by decide) (gf := 176) (lb := #[.pointer (some ⟨w.heap.size + 6, 0, none⟩), .pointer (some ⟨w.heap.size + 7, 0, none⟩)]) rfl trivial (enters_of Tryz.func176 (by kernel_rfl) rfl)
    (from_seq 4 (by decide) (w.heap.size + 6) (w.heap.size + 7) A n c l k Hn.out hsz (fun pre W => ∃ q, GetC N l k (8 * n - k) R pre q ∧ Cons w (getL w.heap.size T N A n c pre q) [] W) ?hC ?hCs) (fun _ => rfl)
    (fun cd pre W => RetC w [(w.heap.size + 1, 3, #[.int .i64 R.1]), (w.heap.size + 2, 3, #[.int .i64 R.2.1]), (w.heap.size + 3, 30, #[.int .i64 R.2.2])] cd W)
    (fun pre x _ W => (∃ q, GetC N l k (8 * n - k) R pre q ∧ Cons w (getL w.heap.size T N A n c pre q) [] W) ∧ Blk W (w.heap.size + 7) 3 #[.int .i64 ((k + pre.length : Nat) : Int)])
    ((own_cons (by simp; omega) _ _ _).and (own_blkF _ _ _)) ((own_cons (by simp; omega) _ _ _).and (own_blkF _ _ _)) (fun cd => own_retC (by simp; omega) _ _) (fun x kk => (own_cons (by simp; omega) _ _ _).and (own_blkF _ _ _)) ?start ?round ?done ?stop
  case hC =>
    rintro pre W v ⟨q, hq, hb, hc, _⟩
    exact ⟨q, hq, hb.setCell (p := ⟨w.heap.size + 7, 0, none⟩) (by show w.heap.size ≤ _; simp) _, hc.far (p := ⟨w.heap.size + 7, 0, none⟩) (by unfold getL; simp) _, rowsAt_nil _⟩
  case hCs =>
    rintro pre W ⟨q, hq, hb, hc, _⟩
    exact ⟨hc.tail.tail.tail.tail.tail.tail.head, HA.out.below hb⟩
  case start =>
    refine ⟨⟨0, ⟨HL.out, ?_⟩, ?_, ?_, rowsAt_nil _⟩, ?_⟩
    · simpa using HR.out
    · exact (((((((((Below.refl _ _).alloc (Nat.le_refl _) _).alloc (by simp) _).alloc (by simp; omega) _).alloc (by simp; omega) _).alloc (by simp; omega) _).alloc (by simp; omega) _).alloc (by simp; omega) _).alloc (by simp; omega) _)
    · unfold getL
      refine CellsAt.cons ?_ (CellsAt.cons ?_ (CellsAt.cons ?_ (CellsAt.cons ?_ (CellsAt.cons ?_ (CellsAt.cons ?_ (CellsAt.cons ?_ (cellsAt_nil _)))))))
      all_goals (repeat (first | (refine blkAt (Blk.new _ _ _) ?_; simp [World.size_alloc]; done) | refine Blk.alloc ?_ _))
    · (repeat (first | (refine blkAt (Blk.new _ _ _) ?_; simp [World.size_alloc]; done) | refine Blk.alloc ?_ _))
  case done =>
    rintro D xs W hD hxs ⟨⟨q, ⟨hqN, hqw⟩, hbel, hcs, _⟩, hb⟩ hK
    unfold getL at hcs
    have hxl : xs.length = 8 * n - k := by rw [hxs, bitsN_length]
    have hRR : R = (0, 0, 5) := by rw [hxl, Nat.sub_self] at hqw; exact hqw.symm
    have f1 := hcs.tail.head.frozen 0
    have f2 := hcs.tail.tail.head.frozen 0
    have f3 := hcs.tail.tail.tail.head.frozen 0
    have r1 := hcs.tail.head.cell 0
    have r2 := hcs.tail.tail.head.cell 0
    have r3 := hcs.tail.tail.tail.head.cell 0
    have HRR := Lib.hid hRR; have HBel := Lib.hid hbel; have HCS := Lib.hid hcs; have HK := Lib.hid hK
    clear hxs hqN hqw hxl hRR hbel hcs hb hK
    gi_wp2_with fail
    go_wp2_with fail
    have hcs := HCS.out
    have hDp : D ≠ w.heap.size + 1 ∧ D ≠ w.heap.size + 2 ∧ D ≠ w.heap.size + 3 := by simp at hD; omega
    have hK3 := (((Below.heap_setCell (W.setCell ⟨w.heap.size + 1, 0, none⟩ (.int .i64 0) |>.setCell ⟨w.heap.size + 2, 0, none⟩ (.int .i64 0)) ⟨w.heap.size + 3, 0, none⟩ (.int .i64 5) D hDp.2.2).trans
      (Below.heap_setCell (W.setCell ⟨w.heap.size + 1, 0, none⟩ (.int .i64 0)) ⟨w.heap.size + 2, 0, none⟩ (.int .i64 0) D hDp.2.1)).trans (Below.heap_setCell W ⟨w.heap.size + 1, 0, none⟩ (.int .i64 0) D hDp.1)).trans HK.out
    have hc3 : CellsAt [(w.heap.size + 1, 3, #[.int .i64 0]), (w.heap.size + 2, 3, #[.int .i64 0]), (w.heap.size + 3, 30, #[.int .i64 5])] (((W.setCell ⟨w.heap.size + 1, 0, none⟩ (.int .i64 0)).setCell ⟨w.heap.size + 2, 0, none⟩ (.int .i64 0)).setCell ⟨w.heap.size + 3, 0, none⟩ (.int .i64 5)) :=
      CellsAt.cons (((hcs.tail.head.set_ 0 _).far (p := ⟨w.heap.size + 2, 0, none⟩) (by simp) _).far (p := ⟨w.heap.size + 3, 0, none⟩) (by simp) _)
        (CellsAt.cons (((hcs.tail.tail.head.far (p := ⟨w.heap.size + 1, 0, none⟩) (by simp) _).set_ 0 _).far (p := ⟨w.heap.size + 3, 0, none⟩) (by simp) _)
          (CellsAt.cons (((hcs.tail.tail.tail.head.far (p := ⟨w.heap.size + 1, 0, none⟩) (by simp) _).far (p := ⟨w.heap.size + 2, 0, none⟩) (by simp) _).set_ 0 _) (cellsAt_nil _)))
    have hc4 := cells_put (o' := .deferred none) hc3 hK3 rfl
    have hb4 := below_put (o := .deferred none) (((HBel.out.setCell (p := ⟨w.heap.size + 1, 0, none⟩) (by show w.heap.size ≤ _; simp) (.int .i64 0)).setCell (p := ⟨w.heap.size + 2, 0, none⟩) (by show w.heap.size ≤ _; simp) (.int .i64 0)).setCell (p := ⟨w.heap.size + 3, 0, none⟩) (by show w.heap.size ≤ _; simp) (.int .i64 5)) (D := D) (by simp at hD; omega)
    have q1 := hc4.head.cell 0
    have q2 := hc4.tail.head.cell 0
    have q3 := hc4.tail.tail.head.cell 0
    rw [HRR.out]
    refine retM hK3 (v := .tuple #[.int .i64 0, .int .i64 0, .int .i64 5]) ?_ ?_
    · simp [results, Tryz.results141, go_sem, q1, q2, q3]
    · exact ⟨rfl, hb4⟩
  case stop =>
    rintro D cd pre W hD hsp ⟨rfl, hbel, hcs, _⟩ hK
    have HBel := Lib.hid hbel; have HCS := Lib.hid hcs; have HK := Lib.hid hK
    clear hbel hcs hK hsp
    gi_wp2_with fail
    have hc4 := cells_put (o' := .deferred none) HCS.out HK.out rfl
    have hb4 := below_put (o := .deferred none) HBel.out (D := D) (by simp at hD; omega)
    have q1 := hc4.head.cell 0
    have q2 := hc4.tail.head.cell 0
    have q3 := hc4.tail.tail.head.cell 0
    refine retM HK.out (v := .tuple #[.int .i64 R.1, .int .i64 R.2.1, .int .i64 R.2.2]) ?_ ?_
    · simp [results, Tryz.results141, go_sem, q1, q2, q3]
    · exact ⟨rfl, hb4⟩
  case round =>
    apply Exists.intro
    refine And.intro ?_ ?_
    · intro lp pre x W hI hsp
      gi_wp2
      obtain ⟨g0, _⟩ : ∃ g0 : Nat, g0 = 0 := ⟨_, rfl⟩
      exact ⟨⟨g0, rfl, hI⟩, KeepsFrom.refl _ _⟩
    · rintro lp pre x kk W ⟨⟨q, hq, hc⟩, hb⟩ hsp
      obtain ⟨hpl, hx⟩ := bitsN_pre _ _ _ _ _ hsp
      obtain ⟨hqN, hqw⟩ := hq
      obtain ⟨hbel, hcs, _⟩ := hc
      unfold getL at hcs
      obtain ⟨tt, htt⟩ : ∃ tt, (N.getD q nd0).to (bitC l (k + pre.length)) = tt := ⟨_, rfl⟩
      have hst := get_step hpl hqw tt htt
      have htN : tt < N.length := by rw [← htt]; exact wfN_to HWF.out q HL.out _
      have B0 := hcs.head; have B1 := hcs.tail.head; have B2 := hcs.tail.tail.head; have B3 := hcs.tail.tail.tail.head; have B4 := hcs.tail.tail.tail.tail.head; have B5 := hcs.tail.tail.tail.tail.tail.head
      dsimp only at B0 B1 B2 B3 B4 B5
      have hx2 : (x : Int) < 2 := by have := bitN_lt l (k + pre.length); omega
      have hx0 : ¬ ((x : Int) < 0) := by omega
      have p0 := B0.cell 0
      have nx : W.cell? ⟨w.heap.size + 4, x, none⟩ = some (.int .i64 (tt : Int)) := by rw [B4.cell, hx, nd_to_bit, htt]
      have m0 := B5.cell 0
      have mf := B5.frozen 0
      have f1 := B1.frozen 0
      have r1 := B1.cell 0
      have r2 := B2.cell 0
      have r3 := B3.cell 0
      have f2 := B2.frozen 0
      have f3 := B3.frozen 0
      have hw1 : IntKind.i64.wrap ((pre.length : Int) + 1) = (pre.length : Int) + 1 := by rw [IntKind.wrap_i64]; omega
      have HBel := Lib.hid hbel; have HCS := Lib.hid hcs; have HST := Lib.hid hst; have Hb := Lib.hid hb; have HX := Lib.hid hx; have HTT := Lib.hid htt
      clear hbel hcs hst hb hx hpl hqw htt B0 B1 B2 B3 B4 B5
      by_cases h0 : tt = 0
      · subst h0
        have nx : W.cell? ⟨w.heap.size + 4, x, none⟩ = some (.int .i64 0) := nx
        gi_wp2_with fail
        have hR := HST.out.1 (by simp)
        have hcs := HCS.out
        refine ⟨?_, rfl, ?_, ?_, rowsAt_nil _⟩
        · exact kf_set (kf_set (kf_set (kf_set (KeepsFrom.refl _ _) _ _) _ _) _ _) _ _
        · exact (((HBel.out.setCell (p := ⟨w.heap.size + 5, 0, none⟩) (by show w.heap.size ≤ _; simp) _).setCell (p := ⟨w.heap.size + 1, 0, none⟩) (by show w.heap.size ≤ _; simp) _).setCell (p := ⟨w.heap.size + 2, 0, none⟩) (by show w.heap.size ≤ _; simp) _).setCell (p := ⟨w.heap.size + 3, 0, none⟩) (by show w.heap.size ≤ _; simp) _
        · rw [hR]
          refine CellsAt.cons ?_ (CellsAt.cons ?_ (CellsAt.cons ?_ (cellsAt_nil _)))
          · exact (((hcs.tail.head.far (p := ⟨w.heap.size + 5, 0, none⟩) (by simp) _).set_ 0 _).far (p := ⟨w.heap.size + 2, 0, none⟩) (by simp) _).far (p := ⟨w.heap.size + 3, 0, none⟩) (by simp) _
          · exact (((hcs.tail.tail.head.far (p := ⟨w.heap.size + 5, 0, none⟩) (by simp) _).far (p := ⟨w.heap.size + 1, 0, none⟩) (by simp) _).set_ 0 _).far (p := ⟨w.heap.size + 3, 0, none⟩) (by simp) _
          · exact (((hcs.tail.tail.tail.head.far (p := ⟨w.heap.size + 5, 0, none⟩) (by simp) _).far (p := ⟨w.heap.size + 1, 0, none⟩) (by simp) _).far (p := ⟨w.heap.size + 2, 0, none⟩) (by simp) _).set_ 0 _
      · have h0b : ((tt : Int) == 0) = false := beq_eq_false_iff_ne.2 (by omega)
        have hbel1 := HBel.out.setCell (p := ⟨w.heap.size + 5, 0, none⟩) (by show w.heap.size ≤ w.heap.size + 5; omega) (.int .i64 ((pre.length : Int) + 1))
        have hcs1 : CellsAt [(w.heap.size, 118, #[.pointer (some ⟨T, 0, none⟩)]), (w.heap.size + 1, 3, #[.int .i64 0]), (w.heap.size + 2, 3, #[.int .i64 0]), (w.heap.size + 3, 30, #[.int .i64 0]), (w.heap.size + 4, 182, (ndC (N.getD q nd0)).toArray), (w.heap.size + 6, 22, #[.slice A n c])] (W.setCell ⟨w.heap.size + 5, 0, none⟩ (.int .i64 ((pre.length : Int) + 1))) := by
          have h := HCS.out
          exact (CellsAt.cons h.head (CellsAt.cons h.tail.head (CellsAt.cons h.tail.tail.head (CellsAt.cons h.tail.tail.tail.head (CellsAt.cons h.tail.tail.tail.tail.head (CellsAt.cons h.tail.tail.tail.tail.tail.tail.head (cellsAt_nil _))))))).far (by simp) _
        have hm1 := HCS.out.tail.tail.tail.tail.tail.head.set_ 0 (.int .i64 ((pre.length : Int) + 1))
        have hb1 := Hb.out.far (p := ⟨w.heap.size + 5, 0, none⟩) (by simp) (.int .i64 ((pre.length : Int) + 1))
        have HBel1 := Lib.hid hbel1; have HCS1 := Lib.hid hcs1; have HM1 := Lib.hid hm1; have HB1 := Lib.hid hb1
        have hkf := Lib.hid (fun B => kf_set (KeepsFrom.refl B W) ⟨w.heap.size + 5, 0, none⟩ (.int .i64 ((pre.length : Int) + 1)))
        clear hbel1 hcs1 hm1 hb1
        gi_wp2_with fail
        generalize hW1 : W.setCell ⟨w.heap.size + 5, 0, none⟩ (.int .i64 ((pre.length : Int) + 1)) = W1 at HBel1 HCS1 HM1 HB1 hkf ⊢
        clear hW1 p0 nx m0 mf f1 f2 f3 r1 r2 r3
        obtain ⟨g2, cap2, mb2, _, _, hq1, hq2, ⟨t0, _, _, k0, k1, k2, k3⟩, _, _, _, _, _⟩ := tree_open (HT.out.later HBel1.out) htN
        rw [← nd_get htN] at k0 k1 k2 k3
        have hcs := HCS1.out
        have z0 := hcs.head.cell 0
        have z4 : W1.cell? ⟨w.heap.size + 4, x, none⟩ = some (.int .i64 (tt : Int)) := by rw [hcs.tail.tail.tail.tail.head.cell, HX.out, nd_to_bit, HTT.out]
        have B4 := hcs.tail.tail.tail.tail.head
        dsimp only at B4
        have d0 := B4.frozen 0
        have d1 := B4.frozen 1
        have d2 := B4.frozen 2
        have d3 := B4.frozen 3
        have e0 : W1.cell? ⟨w.heap.size + 4, 0, none⟩ = some (.int .i64 (N.getD q nd0).a) := by rw [B4.cell]; rfl
        have e1 : W1.cell? ⟨w.heap.size + 4, 1, none⟩ = some (.int .i64 (N.getD q nd0).b) := by rw [B4.cell]; rfl
        have e2 : W1.cell? ⟨w.heap.size + 4, 2, none⟩ = some (.bool (N.getD q nd0).leaf) := by rw [B4.cell]; rfl
        have e3 : W1.cell? ⟨w.heap.size + 4, 3, none⟩ = some (.int .i64 (N.getD q nd0).num) := by rw [B4.cell]; rfl
        clear hcs B4
        refine wpIn_region_tree (fun w' => w'.cell? ⟨w.heap.size, 0, none⟩ = some (.pointer (some ⟨T, 0, none⟩)) ∧ w'.cell? ⟨T, 0, none⟩ = some (.slice (some ⟨g2, 0, none⟩) N.length cap2) ∧ w'.cell? ⟨w.heap.size + 4, x, none⟩ = some (.int .i64 (tt : Int))) 8 (.take 0 (.take 1 (.take 2 (.take 3 (.take 4 (.take 5 (.take 6 (.take 7 .done)))))))) (by kernel_rfl) (by kernel_rfl) (by simp only [Pln.out, Array.getD_eq_getD_getElem?, List.getElem?_toArray, List.getElem?_cons_zero, List.getElem?_cons_succ, Option.getD_some]; rfl) (by simp only [List.map_cons, List.map_nil]; rfl) (⟨z0, t0, z4⟩) (fun PE hPE => ?_)
        iterate 8
          refine tree_take (v := ?_) rfl (by rfl) ?_ ?_
          rotate_left
          · intro _ hSw; (try dsimp only at hSw); obtain ⟨s0, s1, s2⟩ := hSw; go_simp; (try with_reducible rfl)
          simp only [List.setIfInBounds_toArray, List.set_cons_zero, List.set_cons_succ]
        refine hPE _ _ ?_
        clear hPE PE
        simp only [List.drop_succ_cons, List.drop_zero, List.drop_nil]
        go_wp2_with fail
        refine ⟨rfl, ?_⟩
        generalize hW2 : ((((W1.setCell ⟨w.heap.size + 4, 0, none⟩ (.int .i64 (N[tt].a : Nat))).setCell ⟨w.heap.size + 4, 1, none⟩ (.int .i64 (N[tt].b : Nat))).setCell ⟨w.heap.size + 4, 2, none⟩ (.bool N[tt].leaf)).setCell ⟨w.heap.size + 4, 3, none⟩ (.int .i64 N[tt].num)).drew = W2
        have hcs := HCS1.out
        have ho : CellsAt [(w.heap.size, 118, #[.pointer (some ⟨T, 0, none⟩)]), (w.heap.size + 1, 3, #[.int .i64 0]), (w.heap.size + 2, 3, #[.int .i64 0]), (w.heap.size + 3, 30, #[.int .i64 0]), (w.heap.size + 6, 22, #[.slice A n c]), (w.heap.size + 5, 3, #[.int .i64 ((pre.length : Int) + 1)]), (w.heap.size + 7, 3, #[.int .i64 ((k + pre.length : Nat) : Int)])] W1 :=
          CellsAt.cons hcs.head (CellsAt.cons hcs.tail.head (CellsAt.cons hcs.tail.tail.head (CellsAt.cons hcs.tail.tail.tail.head (CellsAt.cons hcs.tail.tail.tail.tail.tail.head (CellsAt.cons HM1.out (CellsAt.cons HB1.out (cellsAt_nil _)))))))
        have HO := Lib.hid (show CellsAt _ W2 from by rw [← hW2]; exact ((((ho.far (p := ⟨w.heap.size + 4, 0, none⟩) (by simp) _).far (p := ⟨w.heap.size + 4, 1, none⟩) (by simp) _).far (p := ⟨w.heap.size + 4, 2, none⟩) (by simp) _).far (p := ⟨w.heap.size + 4, 3, none⟩) (by simp) _).drew)
        have HN4 := Lib.hid (show Blk W2 (w.heap.size + 4) 182 (ndC N[tt]).toArray from by rw [← hW2]; exact (((hcs.tail.tail.tail.tail.head.set_ 0 _).set_ 1 _).set_ 2 _).set_ 3 _)
        have HBel2 := Lib.hid (show Below w.heap.size w W2 from by rw [← hW2]; exact ((((HBel1.out.setCell (p := ⟨w.heap.size + 4, 0, none⟩) (by show w.heap.size ≤ _; simp) _).setCell (p := ⟨w.heap.size + 4, 1, none⟩) (by show w.heap.size ≤ _; simp) _).setCell (p := ⟨w.heap.size + 4, 2, none⟩) (by show w.heap.size ≤ _; simp) _).setCell (p := ⟨w.heap.size + 4, 3, none⟩) (by show w.heap.size ≤ _; simp) _).drew)
        have HKF := Lib.hid (show ∀ B, KeepsFrom B W W2 from fun B => by rw [← hW2]; exact kf_drew (kf_set (kf_set (kf_set (kf_set (hkf.out B) _ _) _ _) _ _) _ _))
        clear hW2 hcs ho HCS1 HM1 HB1 HBel1 hkf z0 z4 d0 d1 d2 d3 e0 e1 e2 e3 t0 k0 k1 k2 k3
        have hcs := HO.out
        have n2 : W2.cell? ⟨w.heap.size + 4, 2, none⟩ = some (.bool N[tt].leaf) := by rw [HN4.out.cell]; rfl
        have n3 : W2.cell? ⟨w.heap.size + 4, 3, none⟩ = some (.int .i64 N[tt].num) := by rw [HN4.out.cell]; rfl
        have m0 := hcs.tail.tail.tail.tail.tail.head.cell 0
        have f1 := hcs.tail.head.frozen 0
        have f2 := hcs.tail.tail.head.frozen 0
        have f3 := hcs.tail.tail.tail.head.frozen 0
        have r1 := hcs.tail.head.cell 0
        have r2 := hcs.tail.tail.head.cell 0
        have r3 := hcs.tail.tail.tail.head.cell 0
        have hkey := HST.out.2
        rw [nd_get htN] at hkey
        have HKEY := Lib.hid hkey
        clear hcs hkey
        by_cases hlf : N[tt].leaf = true
        · have HLF := Lib.hid hlf
          rw [hlf] at n2
          clear hlf
          gi_wp2_with fail
          refine wpIn_region_tree (fun w' => w'.cell? ⟨w.heap.size + 4, 3, none⟩ = some (.int .i64 N[tt].num) ∧ w'.cell? ⟨w.heap.size + 5, 0, none⟩ = some (.int .i64 ((pre.length : Int) + 1))) 4 (.take 0 (.take 1 (.take 2 (.step 3 .done)))) (by kernel_rfl) (by kernel_rfl) (by simp only [Pln.out, Array.getD_eq_getD_getElem?, List.getElem?_toArray, List.getElem?_cons_zero, List.getElem?_cons_succ, Option.getD_some]; rfl) (by simp only [List.map_cons, List.map_nil]; rfl) (⟨n3, m0⟩) (fun PE hPE => ?_)
          iterate 3
            refine tree_take (v := ?_) rfl (by rfl) ?_ ?_
            rotate_left
            · intro _ hSw; (try dsimp only at hSw); obtain ⟨s0, s1⟩ := hSw; go_simp; (try with_reducible rfl)
            simp only [List.setIfInBounds_toArray, List.set_cons_zero, List.set_cons_succ]
          refine tree_skip _ (w' := ?_) rfl (by rfl) ?_ ?_ ?_
          rotate_left 1
          · go_simp; (first | (with_reducible rfl) | (constructor <;> with_reducible rfl) | skip)
          · constructor <;> go_simp
          refine hPE _ _ ?_
          clear hPE PE
          simp only [List.drop_succ_cons, List.drop_zero, List.drop_nil]
          go_wp2_with fail
          refine ⟨rfl, ?_⟩
          gi_wp2_with fail
          have hR := HKEY.out.1 h0 HLF.out
          have hcs := HO.out
          refine ⟨?_, rfl, ?_, ?_, rowsAt_nil _⟩
          · exact kf_drew (kf_set (kf_set (kf_set (HKF.out _) _ _) _ _) _ _)
          · exact (((HBel2.out.setCell (p := ⟨w.heap.size + 1, 0, none⟩) (by show w.heap.size ≤ _; simp) _).setCell (p := ⟨w.heap.size + 2, 0, none⟩) (by show w.heap.size ≤ _; simp) _).setCell (p := ⟨w.heap.size + 3, 0, none⟩) (by show w.heap.size ≤ _; simp) _).drew
          · rw [hR]
            refine CellsAt.cons ?_ (CellsAt.cons ?_ (CellsAt.cons ?_ (cellsAt_nil _)))
            · exact ((hcs.tail.head.set_ 0 _).far (p := ⟨w.heap.size + 2, 0, none⟩) (by simp) _).far (p := ⟨w.heap.size + 3, 0, none⟩) (by simp) _
            · exact ((hcs.tail.tail.head.far (p := ⟨w.heap.size + 1, 0, none⟩) (by simp) _).set_ 0 _).far (p := ⟨w.heap.size + 3, 0, none⟩) (by simp) _
            · exact ((hcs.tail.tail.tail.head.far (p := ⟨w.heap.size + 1, 0, none⟩) (by simp) _).far (p := ⟨w.heap.size + 2, 0, none⟩) (by simp) _).set_ 0 _
        · have hlf : N[tt].leaf = false := by simpa using hlf
          have HLF := Lib.hid hlf
          rw [hlf] at n2
          clear hlf
          gi_wp2_with fail
          have hcs := HO.out
          refine ⟨HKF.out _, trivial, ⟨tt, ⟨htN, ?_⟩, HBel2.out, ?_, rowsAt_nil _⟩, ?_⟩
          · rw [List.length_append]; exact HKEY.out.2 h0 HLF.out
          · unfold getL
            rw [nd_get htN]
            refine CellsAt.cons hcs.head (CellsAt.cons hcs.tail.head (CellsAt.cons hcs.tail.tail.head (CellsAt.cons hcs.tail.tail.tail.head (CellsAt.cons HN4.out (CellsAt.cons ?_ (CellsAt.cons hcs.tail.tail.tail.tail.head (cellsAt_nil _)))))))
            rw [List.length_append]
            exact hcs.tail.tail.tail.tail.tail.head
          · rw [List.length_append]
            exact hcs.tail.tail.tail.tail.tail.tail.head
end Go.Proofs.YtcojnigkgbmbmaaGreatDoor
namespace Go.Proofs.YtcojnigkgbmbmaaGreatDoor
open Go Go.RowKit Go.Maps
attribute [local go_sem] Oper.semAt_some
set_option maxRecDepth 100000 in
set_option maxHeartbeats 2000000 in
theorem prefix_Put (w : World) (base T : Nat) (N : List Nd) (D : DataW Value) (f : Int → Option (List UInt8)) (many : Nat) (h : PTree w base T N D many) (hm : many ≠ 0) (hD : Tells D f) (num : Int) (hnum : (Lit.int .i64 num).wf = true) :
    Calls Tryz.prog 90 #[.pointer (some ⟨T, 0, none⟩), .int .i64 num] w fun e w' => e = .returned (.tuple #[.string (bs ((f num).getD [])), .int .i64 (if (f num).isSome then 0 else 18)]) ∧ Below w.heap.size w w' := by
  have HN := Lib.hid (prefix_none w base T N D many h hm)
  have HNUM := Lib.hid (key_int num hnum)
  have HD := Lib.hid hD
  obtain ⟨v, mb, hBt, hRow, hMap, hbm, hbT⟩ := h
  have HM := Lib.hid hMap
  have c1 := hBt.cell 1
  have hhas := (hD.2 num).1
  clear hBt hRow hMap hbm hbT hD hnum
  cases hf : f num with
  | some c =>
    rw [hf] at hhas
    have hh : Maps.has D (.int .i64 num) = true := hhas
    have HF := Lib.hid hf
    clear hf hhas
    go_enter Tryz.func90, Tryz.ntmps90
    go_wp2_with (first
      | (go_at_call 126; refine HN.out.mono ?_; rintro e w' ⟨rfl, rfl⟩)
      | (at_lookup; refine wpList_lookup_own_ok _ rfl _ _ 158 rfl 3 155 keyed_int Tryz.underlying158 heldR (z := tellV []) (Tryz.zeroValue155 _) (.held (tellV [])) [] rfl mb _ _ rfl HM.out (.int .i64 num) (.int .i64 num) rfl HNUM.out ?_; intro v ps hv; obtain rfl := look_told HD.out hv; clear hv))
    go_ret2
    rw [HF.out]
    exact ⟨rfl, (Below.refl _ _).alloc (Nat.le_refl _) _⟩
  | none =>
    rw [hf] at hhas
    have hh : Maps.has D (.int .i64 num) = false := hhas
    have HF := Lib.hid hf
    clear hf hhas
    go_enter Tryz.func90, Tryz.ntmps90
    go_wp2_with (first
      | (go_at_call 126; refine HN.out.mono ?_; rintro e w' ⟨rfl, rfl⟩)
      | (at_lookup; refine wpList_lookup_own_ok _ rfl _ _ 158 rfl 3 155 keyed_int Tryz.underlying158 heldR (z := tellV []) (Tryz.zeroValue155 _) (.held (tellV [])) [] rfl mb _ _ rfl HM.out (.int .i64 num) (.int .i64 num) rfl HNUM.out ?_; intro v ps hv; obtain rfl := look_told HD.out hv; clear hv))
    go_ret2
    exact ⟨rfl, (Below.refl _ _).alloc (Nat.le_refl _) _⟩
theorem index_codes (A : Option Addr) (n c : Nat) (cs : List (List UInt8)) (w : World) (hA : Sl w A (cs.map strV)) (hn : cs.length = n) (hn2 : n ≤ 300) (hcode : cs.all isCode = true) :
    Calls Tryz.prog 167 #[.slice A n c, .func (.func 149) #[] #[]] w fun e w' => e = .returned (.int .i64 (-1)) ∧ w = w' := by
  have HA := Lib.hid hA; have Hn := Lib.hid hn; have Hcode := Lib.hid hcode
  clear hA hn hcode
  go_enter Tryz.func167, Tryz.ntmps167
  go_wp2_with fail
  go_loopg [8] n (fun g i => fun wr => ∃ (j : Nat), j + g = n ∧ i = .int .i64 (j : Int) ∧ w = wr)
  case atStart => exact ⟨0, by omega, rfl, rfl⟩
  case round =>
    obtain ⟨j, hj, rfl, rfl⟩ := hrel
    cases gk with
    | zero =>
      have hlt : ¬ ((j : Int) < (n : Int)) := by omega
      go_wp2_with fail
      go_ret
      exact ⟨rfl, rfl⟩
    | succ g =>
      have hlt : ((j : Int) < (n : Int)) := by omega
      have hjl : j < cs.length := by rw [Hn.out]; omega
      obtain ⟨ad, rfl, _, hcell⟩ := HA.out.at_ j (by simpa using hjl)
      rw [List.getElem_map] at hcell
      unfold strV at hcell
      have hcd := Lib.hid (List.all_eq_true.1 Hcode.out cs[j] (List.getElem_mem hjl))
      go_wp2_with (go_at_call 149; refine (prefix_Make1 _ hcd.out _).mono ?_; rintro e w' ⟨rfl, rfl⟩)
      go_roundg g
      case measure => omega
      case rel => exact ⟨j + 1, by omega, rfl, rfl⟩
theorem contains_codes (A : Option Addr) (n c : Nat) (cs : List (List UInt8)) (w : World) (hA : Sl w A (cs.map strV)) (hn : cs.length = n) (hn2 : n ≤ 300) (hcode : cs.all isCode = true) :
    Calls Tryz.prog 148 #[.slice A n c, .func (.func 149) #[] #[]] w fun e w' => e = .returned (.bool false) ∧ w = w' := by
  have H := Lib.hid (index_codes A n c cs w hA hn hn2 hcode)
  clear hA hn hcode
  go_enter Tryz.func148, Tryz.ntmps148
  go_wp2_with (go_at_call 167; refine H.out.mono ?_; rintro e w' ⟨rfl, rfl⟩)
  go_ret
  exact ⟨rfl, rfl⟩
theorem putAll_cons {N : List Nd} {c : List UInt8} {cs : List (List UInt8)} {n : Int} {ns : List Int} {R : List Nd} (h : putAll N (c :: cs) (n :: ns) = some R) : ∃ M, putN N c n = some M ∧ putAll M cs ns = some R := by
  rw [putAll] at h
  cases hp : putN N c n with
  | none => rw [hp] at h; cases h
  | some M => rw [hp] at h; exact ⟨M, rfl, h⟩
def MkPost (cs : List (List UInt8)) (ns : List Int) (w : World) (e : Ending) (w' : World) : Prop := ∃ T, e = .returned (.tuple #[.pointer (some ⟨T, 0, none⟩), .int .i64 0]) ∧ PTree w' w.heap.size T (treeN cs ns) (mapT cs ns) cs.length ∧ Below w.heap.size w w'
theorem made_tree (w : World) : PTree ((((w.alloc (.cells #[.int .i64 0, .int .i64 0, .bool false, .int .i64 0] 182)).alloc (.map #[] 0))).alloc (.cells #[.slice (some ⟨w.heap.size, 0, none⟩) 1 1, .map (some (w.heap.size + 1)), .int .i64 0] 160)) w.heap.size (w.heap.size + 1 + 1) [nd0] (.map []) 0 := by
  refine ⟨_, w.heap.size + 1, blkAt (Blk.new _ _ _) (by simp), ?_, ?_, by omega, by omega⟩
  · exact own_below (World.ownsRow_lit w #[.int .i64 0, .int .i64 0, .bool false, .int .i64 0] 1 (Nat.le_refl _) (by decide) rfl) (((Below.refl _ _).alloc (Nat.le_refl _) _).alloc (by simp) _) (by simp)
  · have := World.ownsMap_made (w.alloc (.cells #[.int .i64 0, .int .i64 0, .bool false, .int .i64 0] 182)) Tryz.prog 3 heldR
    rw [World.size_alloc] at this
    exact this.alloc _
set_option maxRecDepth 100000 in
set_option maxHeartbeats 4000000 in
theorem prefix_Make (A B : Option Addr) (n c d : Nat) (cs : List (List UInt8)) (ns : List Int) (w : World) (hA : Sl w A (cs.map strV)) (hB : Sl w B (ns.map intV)) (hc : cs.length = n) (hn : ns.length = n) (h1 : 1 ≤ n) (h300 : n ≤ 300)
    (hcode : cs.all isCode = true) (hput : (putAll [nd0] cs ns).isSome = true) (hwf : ns.all (fun k => (Lit.int .i64 k).wf) = true) :
    Calls Tryz.prog 125 #[.slice A n c, .slice B n d] w (MkPost cs ns w) := by
  have Hco := Lib.hid (contains_codes A n c cs w hA hc h300 hcode)
  have HA := Lib.hid hA; have HB := Lib.hid hB; have Hc := Lib.hid hc; have Hn := Lib.hid hn; have Hcode := Lib.hid hcode; have Hwf := Lib.hid hwf
  have hpa : putAll [nd0] cs ns = some (treeN cs ns) := by unfold treeN; cases h : putAll [nd0] cs ns with
    | none => rw [h] at hput; cases hput
    | some R => rfl
  have Hpa := Lib.hid hpa
  have e0 : ((n : Int) == 0) = false := by rw [beq_eq_false_iff_ne]; omega
  have e3 : decide (300 < (n : Int)) = false := by simp; omega
  have hmk : ∀ W : World, (Instr.makeMap 158 none).run Tryz.prog W = .ok (.map (some W.heap.size)) (W.alloc (.map #[] 0)) := fun W => run_makeMap _ W
  clear hA hB hc hn hcode hput hwf hpa
  go_enter Tryz.func125, Tryz.ntmps125
  go_wp2_with (go_at_call 148; refine Hco.out.mono ?_; rintro e w' ⟨rfl, rfl⟩)
  go_loopg [35] n (fun g i => fun wr => ∃ (j : Nat) (N' : List Nd) (D' : DataW Value) (f : Int → Option (List UInt8)), j + g = n ∧ i = .int .i64 (j : Int) ∧ Hid (putAll N' (cs.drop j) (ns.drop j) = some (treeN cs ns)) ∧ Hid (allD D' (cs.drop j) (ns.drop j) = mapT cs ns) ∧ Hid (Tells D' f) ∧ Hid (PTree wr w.heap.size (w.heap.size + 1 + 1) N' D' j) ∧ Hid (Below w.heap.size w wr))
  case atStart =>
    exact ⟨0, [nd0], .map [], fun _ => none, by omega, rfl, Hpa, Lib.hid rfl, Lib.hid tells_none, Lib.hid (made_tree w), Lib.hid (((((Below.refl _ _).alloc (Nat.le_refl _) _).alloc (by simp) _).alloc (by simp; omega) _))⟩
  case round =>
    obtain ⟨j, N', D', f, hj, rfl, HP, HD, HT, HW, HBl⟩ := hrel
    cases gk with
    | succ g =>
      have hlt : ((j : Int) < (n : Int)) := by omega
      have hjl : j < cs.length := by rw [Hc.out]; omega
      have hjn : j < ns.length := by rw [Hn.out]; omega
      obtain ⟨ad, rfl, _, hcell⟩ := (HA.out.below HBl.out).at_ j (by simpa using hjl)
      rw [List.getElem_map] at hcell
      unfold strV at hcell
      obtain ⟨ae, rfl, _, hcn⟩ := (HB.out.below HBl.out).int j hjn
      have hcd := Lib.hid (List.all_eq_true.1 Hcode.out cs[j] (List.getElem_mem hjl))
      have hwn := Lib.hid (List.all_eq_true.1 Hwf.out ns[j] (List.getElem_mem hjn))
      have hp := HP.out
      have hd := HD.out
      rw [List.drop_eq_getElem_cons hjl, List.drop_eq_getElem_cons hjn] at hp hd
      obtain ⟨M, hM, hp⟩ := putAll_cons hp
      have CP := Lib.hid (prefix_put wr w.heap.size (w.heap.size + 1 + 1) N' D' f j cs[j] ns[j] M hcd.out hM (by omega) HW.out HT.out hwn.out HBl.out.size)
      have HP2 := Lib.hid hp
      have HD2 := Lib.hid (show allD (addD D' ns[j] cs[j]) (cs.drop (j + 1)) (ns.drop (j + 1)) = mapT cs ns from hd)
      have HT2 := Lib.hid (tells_add HT.out ns[j] cs[j])
      generalize cs[j] = cj at hcell CP HD2 HT2 hcd
      generalize ns[j] = nj at hcn CP HD2 HT2 hwn
      clear hp hd hM
      go_wp2_with (go_at_call 151; refine CP.out.mono ?_; rintro e w' ⟨rfl, ht2, hb2⟩; have HW2 := Lib.hid ht2; have HB2 := Lib.hid hb2; clear ht2 hb2)
      go_roundg g
      case measure => omega
      case rel => exact ⟨j + 1, M, _, _, by omega, rfl, HP2, HD2, HT2, HW2, Lib.hid (HBl.out.trans HB2.out)⟩
    | zero =>
      have hlt : ¬ ((j : Int) < (n : Int)) := by omega
      have hje : j = n := by omega
      go_wp2_with fail
      go_ret2
      have hp := HP.out
      have hd := HD.out
      rw [List.drop_eq_nil_of_le (by rw [Hc.out]; omega)] at hp hd
      have e1 : N' = treeN cs ns := by rw [putAll.eq_def] at hp; simpa using hp
      have e2 : D' = mapT cs ns := by rw [allD.eq_def] at hd; simpa using hd
      refine ⟨_, rfl, ?_, HBl.out⟩
      rw [Hc.out, ← hje, ← e1, ← e2]
      exact HW.out
end Go.Proofs.YtcojnigkgbmbmaaGreatDoor
