/- Package address. -/
import Derived.Test.YtedjplbiibflmaaDoorBits
import Derived.Test.YtedjplbiibflmaaDoorFmt2
import Derived.Test.YtedjplbiibflmaaDoorShelf
import Derived.Test.YtedjplbiibflmaaDoorPlan
import Derived.Deep.AppendLies
namespace Go.Proofs.YtedjplbiibflmaaDoor
open Go Go.RowKit
def bitC (l : List UInt8) (k : Nat) : UInt8 := if bitN l k = 0 then 48 else 49
def bitsL (l : List UInt8) (i n : Nat) : List UInt8 := (List.range n).map fun j => bitC l (i + j)
theorem bitsL_succ (l : List UInt8) (i n : Nat) : bitsL l i (n + 1) = bitsL l i n ++ [bitC l (i + n)] := by simp [bitsL, List.range_succ]
theorem bitsL_length (l : List UInt8) (i n : Nat) : (bitsL l i n).length = n := by simp [bitsL]
theorem numN_one (l : List UInt8) (k : Nat) : numN l k 1 = bitN l k := by simp [numN]
set_option maxHeartbeats 400000 in
theorem address_seen (A : Option Addr) (n c : Nat) (l : List UInt8) (i : Int) (w : World) (hr : Sl w A (l.map byteV)) (hn : l.length = n) (h0 : 0 ≤ i) (h1 : i ≤ 8 * n) (hsz : n ≤ 2 ^ 47) :
   Calls Tryd.prog 26 #[.slice A n c, .int .i64 i] w fun e w' => e = .returned (.string (bs (bitsL l i.toNat (min 15 (8 * n - i.toNat))))) ∧ w = w' := by
  obtain ⟨k, rfl⟩ := Int.eq_ofNat_of_zero_le h0
  go_enter Tryd.func26, Tryd.ntmps26
  go_wp2
  go_loop [5, 9] (fun o j => ∃ m : Nat, m ≤ 15 ∧ k + m ≤ 8 * n ∧ j = .int .i64 (m : Int) ∧ o = .string (bs (bitsL l k m))) (fun _ j => 15 - (intOf j).toNat)
  case atStart => exact ⟨0, by omega, by omega, rfl, rfl⟩
  case round =>
    obtain ⟨m, hm, hk, rfl, rfl⟩ := hrel
    have hlen : (bitsL l k m).length ≤ 15 := by rw [bitsL_length]; omega
    by_cases hlt : m < 15
    · by_cases hin : k + m < 8 * n
      · have hb := bitN_lt l (k + m)
        have Hs := Lib.hid (bitsL_succ l k m)
        have H1 := Lib.hid (numN_one l (k + m))
        by_cases hz : bitN l (k + m) = 0
        · have hz48 : bitC l (k + m) = 48 := by simp [bitC, hz]
          have Hz := Lib.hid hz48; clear hz48
          go_wp2_with (go_at_call 35; refine (bits_Read_v 0 _ _ _ l _ _ _ (by rw [show ((k:Int)+m).toNat = k + m by omega]; exact (congrArg Nat.cast (H1.out.trans hz))) hr hn (by omega) (by omega) (by omega) (by omega) hsz).mono ?_; rintro e w' ⟨rfl, rfl⟩)
          exact ⟨⟨m + 1, by omega, by omega, rfl, by rw [Hs.out, Hz.out]⟩, by simp [intOf]; omega⟩
        · have hz49 : bitC l (k + m) = 49 := by simp [bitC, hz]
          have Hz := Lib.hid hz49; clear hz49
          have hz1 : bitN l (k + m) = 1 := by omega
          have Hz1 := Lib.hid hz1
          clear hz1 hz
          go_wp2_with (go_at_call 35; refine (bits_Read_v 1 _ _ _ l _ _ _ (by rw [show ((k:Int)+m).toNat = k + m by omega]; exact (congrArg Nat.cast (H1.out.trans Hz1.out))) hr hn (by omega) (by omega) (by omega) (by omega) hsz).mono ?_; rintro e w' ⟨rfl, rfl⟩)
          exact ⟨⟨m + 1, by omega, by omega, rfl, by rw [Hs.out, Hz.out]⟩, by simp [intOf]; omega⟩
      · go_wp2_with (go_at_call 35; refine (bits_Read_more _ _ _ _ _ _ (by omega) (by omega) (by omega) (by omega) hsz).mono ?_; rintro e w' ⟨rfl, rfl⟩)
        go_ret
        exact ⟨ret_str (congrArg (bitsL l k) (by omega)), rfl⟩
    · go_wp2
      go_ret
      exact ⟨ret_str (congrArg (bitsL l k) (by omega)), rfl⟩
theorem repeat_zero (c : Nat) : Lib.repeatL [48] c = List.replicate c 48 := by
  induction c with
  | zero => rfl
  | succ c ih => simp [Lib.repeatL, ih, List.replicate_succ]
def textL (n many : Nat) : List UInt8 := List.replicate (many - (n.log2 + 1)) 48 ++ binD n (n.log2 + 1)
set_option maxHeartbeats 400000 in
theorem address_text (n many : Int) (h1 : 1 ≤ n) (h2 : n < 2 ^ 30) (hm : (n.toNat.log2 : Int) + 1 ≤ many) (hm2 : many ≤ 100) (w : World) (hT : Tz w) :
    Calls Tryd.prog 43 #[.int .i64 n, .int .i64 many] w fun e w' => e = .returned (.string (bs (textL n.toNat many.toNat))) ∧ Below w.heap.size w w' := by
  have HT := Lib.hid hT; clear hT
  have hk : 2 ^ n.toNat.log2 ≤ n.toNat := Nat.log2_self_le (by omega)
  have hk2 : n.toNat < 2 ^ (n.toNat.log2 + 1) := Nat.lt_log2_self
  have hkk : n.toNat.log2 < 32 := (Nat.log2_lt (by omega)).2 (by omega)
  unfold textL
  generalize n.toNat.log2 = k at hk hk2 hkk hm
  obtain ⟨m, rfl⟩ : ∃ m : Nat, many = m := ⟨many.toNat, by omega⟩
  have hl := binD_length n.toNat (k + 1)
  have h1 : (0 : Int) ≤ m - (k + 1) := by omega
  have e1 : bs [48] = { data := #[48] } := rfl
  have hr := fun (w : World) => Tryd.strings_Repeat (bs [48]) (m - (k + 1)) w (by omega) (by rw [bs_size]; simp; omega)
  rw [bs_toList, repeat_zero] at hr
  have hr2 : ∀ w : World, Calls Tryd.prog 27 #[.string { data := #[48] }, .int .i64 ((m : Int) - ((k : Int) + 1))] w fun e w' => e = .returned (.string (bs (List.replicate (m - (k + 1)) 48))) ∧ Below w.heap.size w w' := fun w => by
    have := hr w
    rw [show (((m - (k + 1) : Nat)) : Int) = (m : Int) - ((k : Int) + 1) by omega] at this
    exact this
  have Hr := Lib.hid hr2
  clear hr hr2 e1
  go_enter Tryd.func43, Tryd.ntmps43
  go_wp2_with (first | (go_at_call 53; refine (fmt2 n k hk hk2 hkk _ HT.out).mono ?_; rintro e w1 ⟨rfl, hb1⟩) | (go_at_call 27; refine (Hr.out _).mono ?_; rintro e w2 ⟨rfl, hb2⟩))
  go_ret
  exact ⟨rfl, hb1.trans (hb2.mono hb1.size)⟩
def downL (first bits : Int) (m : Nat) : List Value := (List.range m).map fun (j : Nat) => Value.string (bs (textL (first.toNat - j) bits.toNat))
theorem downL_succ (first bits : Int) (m : Nat) : downL first bits (m + 1) = downL first bits m ++ [.string (bs (textL (first.toNat - m) bits.toNat))] := by simp [downL, List.range_succ]
theorem infoStr : (Tryd.prog.info? 9).map (fun i => (i.zero, i.size, i.bytes)) = some (some (.string ⟨#[]⟩), 1, 16) := by kernel_rfl
set_option maxRecDepth 100000 in
set_option maxHeartbeats 1000000 in
theorem address_codes1 (first bits : Int) (many : Nat) (hf : many ≤ first) (hf2 : first < 2 ^ 30) (hb0 : ∀ j : Nat, j < many → ((first - j).toNat.log2 : Int) + 1 ≤ bits) (hb2 : bits ≤ 100)
    (Bo base n : Nat) (v : Value) (xs : List Value) (w : World) (hT : Tz w) (hTB : 3 < base) (hown : w.ownsRow base 9 1 v n xs) (hbox : Blk w Bo 48 #[v]) (hbase : base ≤ Bo) (hn : n + many ≤ 1000) :
    Calls Tryd.prog 42 #[.int .i64 first, .int .i64 many, .int .i64 bits, .pointer (some ⟨Bo, 0, none⟩)] w fun e w' => e = .returned (.tuple #[]) ∧
      (∃ v', w'.ownsRow base 9 1 v' (n + many) (xs ++ downL first bits many) ∧ Blk w' Bo 48 #[v'] ∧ Below base w w') := by
  have HT := Lib.hid hT; clear hT
  have Hb0 := Lib.hid hb0; clear hb0
  obtain ⟨i0, hi, hz0, hz1, hz2⟩ := info_parts infoStr
  go_enter Tryd.func42, Tryd.ntmps42
  go_wp2_with fail
  go_loopw [9] (fun i wr => ∃ (j : Nat) (v : Value), j ≤ many ∧ i = .int .i64 (j : Int) ∧ wr.ownsRow base 9 1 v (n + j) (xs ++ downL first bits j) ∧ Blk wr Bo 48 #[v] ∧ Below base w wr) (fun i _ => many - (intOf i).toNat)
  case atStart => exact ⟨0, v, by omega, rfl, by simpa [downL] using hown, hbox, Below.refl _ _⟩
  case round =>
    obtain ⟨j, v, hj, rfl, hown, hbox, hbel⟩ := hrel
    by_cases hlt : j < many
    · have hc : wr.cell? ⟨Bo, 0, none⟩ = some v := by rw [hbox.cell]; rfl
      have hf0 := hbox.frozen 0
      have hne := own_blk_ne hown hbox (by decide)
      have Htx := Lib.hid (fun W (h : Tz W) => address_text (first - j) bits (by omega) (by omega) (Hb0.out j hlt) hb2 W h)
      rw [show (first - (j : Int)).toNat = first.toNat - j by omega] at Htx
      have HTr := Lib.hid (HT.out.belowB hbel hTB)
      have hwr : IntKind.i64.wrap (first - (j : Int)) = first - j := IntWalk.i64_in _ (by omega)
      go_wp2_with fail
      refine wp_region_plan2 (fun w' => w'.cell? ⟨Bo, 0, none⟩ = some v) 7 [(0, true), (1, true), (2, true), (3, true), (4, true), (5, false), (6, false)] (by kernel_rfl) (by kernel_rfl) (fun _ _ d _ _ h => by cases d <;> exact h) (by decide) (by simp only [List.map_cons, List.map_nil, Array.getD_eq_getD_getElem?, List.getElem?_toArray, List.getElem?_cons_zero, List.getElem?_cons_succ, Option.getD_some]; rfl) (by simp only [List.map_cons, List.map_nil]; rfl) (hc) (fun PE hPE => ?_)
      refine plan_take (v := ?_) rfl (by rfl) ?_ ?_
      rotate_left
      · intro _ hSw; (try dsimp only at hSw); go_simp; (try with_reducible rfl)
      simp only [List.setIfInBounds_toArray, List.set_cons_zero, List.set_cons_succ]
      refine plan_take (v := ?_) rfl (by rfl) ?_ ?_
      rotate_left
      · intro _ hSw; (try dsimp only at hSw); go_simp; (try with_reducible rfl)
      simp only [List.setIfInBounds_toArray, List.set_cons_zero, List.set_cons_succ]
      refine plan_take (v := ?_) rfl (by rfl) ?_ ?_
      rotate_left
      · intro _ hSw; (try dsimp only at hSw); go_simp; (try with_reducible rfl)
      simp only [List.setIfInBounds_toArray, List.set_cons_zero, List.set_cons_succ]
      refine plan_take (v := ?_) rfl (by rfl) ?_ ?_
      rotate_left
      · intro _ hSw; (try dsimp only at hSw); go_simp; (try with_reducible rfl)
      simp only [List.setIfInBounds_toArray, List.set_cons_zero, List.set_cons_succ]
      refine plan_take (v := ?_) rfl (by rfl) ?_ ?_
      rotate_left
      · intro _ hSw; (try dsimp only at hSw); go_simp; (try with_reducible rfl)
      simp only [List.setIfInBounds_toArray, List.set_cons_zero, List.set_cons_succ]
      refine plan_call rfl (by rfl) (by first | (go_simp; done) | (go_simp; rfl)) (Htx.out _ (by exact HTr.out)) ?_
      rintro e w1 ⟨rfl, hb1⟩
      replace hb1 := undrew hb1
      have hbx1 : Blk w1 Bo 48 #[v] := hbox.below hb1 hbox.lt
      have ho1 : w1.ownsRow base 9 1 v (n + j) (xs ++ downL first bits j) := own_below hown hb1 (Nat.le_refl _)
      have hbel1 : Below base w w1 := hbel.trans (hb1.mono (by have := hbox.lt; omega))
      refine ⟨_, rfl, by rw [hbx1.cell]; rfl, ?_⟩
      simp only [List.setIfInBounds_toArray, List.set_cons_zero, List.set_cons_succ]
      refine plan_value (v := ?_) (w' := ?_) rfl (by rfl) ?_ ?_ ?_
      rotate_left 2
      · go_simp; (try (constructor <;> with_reducible rfl))
      · rw [(hbx1.alloc _).cell]; rfl
      simp only [List.setIfInBounds_toArray, List.set_cons_zero, List.set_cons_succ]
      (refine hPE _ _ ?_; simp only [List.drop_succ_cons, List.drop_zero]; clear hPE PE)
      have ha := ho1.alloc (.cells #[.string (bs (textL (first.toNat - j) bits.toNat))] 9)
      go_wp2_with (refine wpList_append_lies _ rfl _ _ _ rfl base 9 i0 _ 1 16 Tryd.underlying48 hi hz0 hz1 hz2 rfl (by omega) v (n + j) _ rfl ha ⟨w1.heap.size, 0, none⟩ 1 1 [_] rfl rfl (news1 _ _ _) (by simp [Value.oneCell']) (by omega) (by unfold maxLen; omega) (by omega) (by have := hbel1.size; have := hbx1.lt; simp; omega) (w1.heap.size + 1) (by simp) ?_; intro gg cap w2 hown2 hgrow hat hlt2; have hbx2 : Blk w2 Bo 48 #[v] := (hbx1.alloc _).grown hgrow hne; have hkeep2 : w2.cell? ⟨Bo, 0, none⟩ = some v := (by rw [hbx2.cell]; rfl); have hf2 := hbx2.frozen 0)
      refine ⟨⟨j + 1, _, by omega, rfl, ?_, hbx2.set_ 0 _, ?_⟩, by simp [intOf]; omega⟩
      · rw [downL_succ, ← List.append_assoc]
        exact own_set hown2 _ _ (own_blk_ne hown2 hbx2 (by decide))
      · exact ((hbel1.alloc (by have := hbel1.size; have := hbx1.lt; omega) _).grown hgrow (by have := hbx1.lt; simp; omega) (fun k hk => (hown.lt k hk).1)).setCell (p := ⟨Bo, 0, none⟩) hbase _
    · obtain rfl : j = many := by omega
      go_wp2_with fail
      go_end0
      exact ⟨rfl, v, hown, hbox, hbel⟩
def headL : List Value := [.string ⟨#[48, 48, 48, 48, 48, 48, 48, 49, 49, 49, 49]⟩, .string ⟨#[49]⟩, .string ⟨#[48, 49, 49]⟩, .string ⟨#[48, 49, 48]⟩, .string ⟨#[48, 48, 49, 49]⟩, .string ⟨#[48, 48, 49, 48]⟩, .string ⟨#[48, 48, 48, 49, 49]⟩, .string ⟨#[48, 48, 48, 49, 48]⟩, .string ⟨#[48, 48, 48, 48, 49, 49, 49]⟩, .string ⟨#[48, 48, 48, 48, 49, 49, 48]⟩]
def codesV : List Value := headL ++ downL 11 8 6 ++ downL 23 10 6 ++ downL 35 11 12
set_option maxRecDepth 100000 in
set_option maxHeartbeats 1000000 in
theorem address_codes (w : World) (hT : Tz w) :
    Calls Tryd.prog 29 #[] w fun e w' => ∃ A c, e = .returned (.slice A 34 c) ∧ Sl w' A codesV ∧ Below w.heap.size w w' := by
  have HT := Lib.hid hT; clear hT
  have H1 := Lib.hid (address_codes1 11 8 6 (by decide) (by decide) (by decide) (by decide))
  have H2 := Lib.hid (address_codes1 23 10 6 (by decide) (by decide) (by decide) (by decide))
  have H3 := Lib.hid (address_codes1 35 11 12 (by decide) (by decide) (by decide) (by decide))
  go_enter Tryd.func29, Tryd.ntmps29
  go_wp2_with fail
  have hG : 3 < w.heap.size := HT.out.lt
  have HG := Lib.hid hG; clear hG
  refine (H1.out _ w.heap.size 10 _ headL _ (HT.out.below (((Below.refl _ _).alloc (Nat.le_refl _) _).alloc (by simp) _)) HG.out ((World.ownsRow_lit w headL.toArray 10 (Nat.le_refl _) (by decide) (by rfl)).alloc _)
    (by have := Blk.new (w.alloc (.cells headL.toArray 9)) 48 #[.slice (some ⟨w.heap.size, 0, none⟩) 10 10]; rwa [World.size_alloc] at this) (by omega) (by decide)).mono ?_
  rintro e w1 ⟨rfl, v1, ho1, hb1, hl1⟩
  replace hl1 := (((Below.refl w.heap.size w).alloc (Nat.le_refl _) _).alloc (by simp) _).trans hl1
  have hc1 : w1.cell? ⟨w.heap.size + 1, 0, none⟩ = some v1 := by rw [hb1.cell]; rfl
  go_wp2_with fail
  refine (H2.out _ w.heap.size _ _ _ _ (HT.out.below hl1) HG.out ho1 hb1 (by omega) (by decide)).mono ?_
  rintro e w2 ⟨rfl, v2, ho2, hb2, hl2⟩
  go_wp2_with fail
  replace hl2 := hl1.trans hl2
  refine (H3.out _ w.heap.size _ _ _ _ (HT.out.below hl2) HG.out ho2 hb2 (by omega) (by decide)).mono ?_
  rintro e w3 ⟨rfl, v3, ho3, hb3, hl3⟩
  replace hl3 := hl2.trans hl3
  have hc3 : w3.cell? ⟨w.heap.size + 1, 0, none⟩ = some v3 := by rw [hb3.cell]; rfl
  go_wp2_with fail
  go_ret
  obtain ⟨A, c, rfl, hS⟩ := own_sl ho3
  exact ⟨A, c, rfl, hS, hl3⟩
end Go.Proofs.YtedjplbiibflmaaDoor
