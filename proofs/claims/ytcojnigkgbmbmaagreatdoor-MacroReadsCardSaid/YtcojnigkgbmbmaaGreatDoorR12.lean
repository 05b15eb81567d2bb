/- Ref05, Ref06, Ref07 -/
import Derived.Test.YtcojnigkgbmbmaaGreatDoorR11
import Derived.Test.YtcojnigkgbmbmaaGreatDoorR09
import Derived.Test.YtcojnigkgbmbmaaGreatDoorR04
import Derived.Test.YtcojnigkgbmbmaaGreatDoorR02
namespace Go.Proofs.YtcojnigkgbmbmaaGreatDoor
open Go Go.RowKit
set_option maxRecDepth 100000 in
theorem ref05_codes (w : World) : Calls Tryz.prog 117 #[] w fun e w' => (∃ A, e = .returned (.slice A 10 10) ∧ Sl w' A (kindC.map strV)) ∧ Below w.heap.size w w' := by
  go_enter Tryz.func117, Tryz.ntmps117
  go_wp2_with fail
  go_ret
  exact ⟨⟨_, rfl, Blk.sl (Blk.new w 9 (kindC.map strV).toArray) 0⟩, (Below.refl _ _).alloc (Nat.le_refl _) _⟩
def TreeIs (m : Nat) (cs : List (List UInt8)) (ns : List Int) (w : World) (e : Ending) (w' : World) : Prop := ∃ b, e = .returned (.pointer (some ⟨b, 0, none⟩)) ∧ TreeAt w' b m cs ns ∧ Below w.heap.size w w'
set_option maxRecDepth 100000 in
theorem ref05_Tree (w : World) : Calls Tryz.prog 77 #[] w (TreeIs 10 kindC kindN w) := by
  go_enter Tryz.func77, Tryz.ntmps77
  go_wp2_with fail
  refine (ref05_codes w).mono ?_
  rintro e w1 ⟨⟨X, rfl, hX⟩, hb1⟩
  have B1 := Lib.hid hb1; have HX := Lib.hid hX; clear hb1 hX
  have MK := Lib.hid (fun (Y : Option Addr) (y : Nat) (W : World) (h1 : Sl W X (kindC.map strV)) (h2 : Sl W Y (kindN.map intV)) => ref03_Make X Y 10 10 y kindC kindN W h1 h2 rfl rfl (by decide) (by decide) (by kernel_rfl) (by kernel_rfl))
  have hY : Sl (w1.alloc (.cells (kindN.map intV).toArray 3)) (some ⟨w1.heap.size, 0, none⟩) (kindN.map intV) := Blk.sl (Blk.new w1 3 (kindN.map intV).toArray) 0
  have HY := Lib.hid hY; clear hY
  have hb2 := B1.out.alloc B1.out.size (.cells (kindN.map intV).toArray 3)
  have B2 := Lib.hid hb2
  have HX2 := Lib.hid (HX.out.alloc (.cells (kindN.map intV).toArray 3)); clear HX B1 hb2
  have e1 : (kindN.map intV).toArray = #[.int .i64 1, .int .i64 2, .int .i64 3, .int .i64 4, .int .i64 5, .int .i64 6, .int .i64 7, .int .i64 8, .int .i64 9, .int .i64 10] := by kernel_rfl
  rw [e1] at HY HX2 B2
  clear e1
  go_wp2_with fail
  refine (MK.out _ _ _ HX2.out HY.out).mono ?_
  rintro e w3 ⟨b, rfl, hT, hb3⟩
  have HT := Lib.hid hT
  have B3 := Lib.hid (B2.out.trans (hb3.mono B2.out.size)); clear hT hb3 B2
  go_wp2_with fail
  go_ret
  exact ⟨b, rfl, HT.out, B3.out⟩
theorem ref05_Get (A : Option Addr) (n c : Nat) (l : List UInt8) (i : Int) (w : World) (hA : Sl w A (l.map byteV)) (hn : l.length = n) (hsz : n ≤ 2 ^ 47) (hi : -9223372036854775808 ≤ i ∧ i ≤ 9223372036854775807) :
    Calls Tryz.prog 37 #[.slice A n c, .int .i64 i] w fun e w' => e = .returned (.tuple #[.int .i64 (treeR kindC kindN l i).1, .int .i64 (treeR kindC kindN l i).2.1, .int .i64 (treeR kindC kindN l i).2.2]) ∧ Below w.heap.size w w' := by
  have Gt := Lib.hid (fun (b : Nat) (W : World) (h : TreeAt W b 10 kindC kindN) (hA : Sl W A (l.map byteV)) => ref03_Get b A n 10 c kindC kindN l i W h rfl rfl (by decide) (by kernel_rfl) hA hn hsz hi)
  have HA := Lib.hid hA; clear hA hn
  generalize treeR kindC kindN l i = R at Gt ⊢
  obtain ⟨r1, r2, r3⟩ := R
  go_enter Tryz.func37, Tryz.ntmps37
  go_wp2_with fail
  refine (ref05_Tree w).mono ?_
  rintro e w1 ⟨b, rfl, hT, hb1⟩
  have B1 := Lib.hid hb1; have HT := Lib.hid hT; clear hb1 hT
  go_wp2_with fail
  refine (Gt.out b w1 HT.out (HA.out.below B1.out)).mono ?_
  rintro e w2 ⟨rfl, hb2⟩
  have B2 := Lib.hid (B1.out.trans (hb2.mono B1.out.size)); clear hb2 B1
  go_wp2_with fail
  go_ret3
  exact ⟨rfl, B2.out⟩
def prtL (k : Int) : List Value := [.bool (pI k), .bool (pQ k), .bool (pV k), .bool (pF k), .bool (pC k)]
theorem prtL_out {k : Int} (h : k < 1 ∨ 10 < k) : prtL k = [.bool false, .bool false, .bool false, .bool false, .bool false] := by
  have e1 : pI k = false := by unfold pI; simp; omega
  have e2 : pQ k = false := by unfold pQ; simp; omega
  have e3 : pV k = false := by unfold pV; simp; omega
  have e4 : pF k = false := by unfold pF; simp; omega
  have e5 : pC k = false := by unfold pC; simp; omega
  unfold prtL
  rw [e1, e2, e3, e4, e5]
def OfPost (k : Int) (w : World) (e : Ending) (w' : World) : Prop := e = .returned (.tuple #[.agg (prtL k).toArray, .int .i64 (if inK k then 0 else 18)]) ∧ Below w.heap.size w w'
set_option maxHeartbeats 4000000 in
theorem ref05_Of (k : Int) (w : World) : Calls Tryz.prog 38 #[.int .i64 k] w (OfPost k w) := by
  by_cases h0 : k < 1
  · have q0 : decide (k < 1) = true := by simpa using h0
    unfold OfPost
    rw [prtL_out (.inl h0), show inK k = false by unfold inK; simp; omega]
    go_enter Tryz.func38, Tryz.ntmps38
    go_wp2_with fail
    refine bodyPost_ret (by simp [results, Tryz.results38, go_sem]; try rfl) rfl ?_
    exact ⟨rfl, (Below.refl _ _).alloc (Nat.le_refl _) _⟩
  by_cases h1 : 10 < k
  · have q0 : decide (k < 1) = false := by simpa using h0
    have q1 : decide (10 < k) = true := by simpa using h1
    unfold OfPost
    rw [prtL_out (.inr h1), show inK k = false by unfold inK; simp; omega]
    go_enter Tryz.func38, Tryz.ntmps38
    go_wp2_with fail
    refine bodyPost_ret (by simp [results, Tryz.results38, go_sem]; try rfl) rfl ?_
    exact ⟨rfl, (Below.refl _ _).alloc (Nat.le_refl _) _⟩
  have hk : k = 1 ∨ k = 2 ∨ k = 3 ∨ k = 4 ∨ k = 5 ∨ k = 6 ∨ k = 7 ∨ k = 8 ∨ k = 9 ∨ k = 10 := by omega
  clear h0 h1
  rcases hk with rfl | rfl | rfl | rfl | rfl | rfl | rfl | rfl | rfl | rfl
  all_goals
    go_enter Tryz.func38, Tryz.ntmps38
    go_wp2_with fail
    refine bodyPost_ret (by simp [results, Tryz.results38, go_sem]; try rfl) rfl ?_
    exact ⟨rfl, ((Below.refl _ _).alloc (Nat.le_refl _) _).alloc (by simp) _⟩
end Go.Proofs.YtcojnigkgbmbmaaGreatDoor
namespace Go.Proofs.YtcojnigkgbmbmaaGreatDoor
open Go Go.RowKit
set_option maxRecDepth 100000 in
theorem ref06_Codes (w : World) : Calls Tryz.prog 102 #[] w fun e w' => (∃ A, e = .returned (.slice A 32 32) ∧ Sl w' A (vecC.map strV)) ∧ Below w.heap.size w w' := by
  go_enter Tryz.func102, Tryz.ntmps102
  go_wp2_with fail
  go_ret
  exact ⟨⟨_, rfl, Blk.sl (Blk.new w 9 (vecC.map strV).toArray) 0⟩, (Below.refl _ _).alloc (Nat.le_refl _) _⟩
def frL (lo : Int) (j : Nat) : List Int := (List.range j).map fun (k : Nat) => (k : Int) + lo
theorem frL_succ (lo : Int) (j : Nat) : (frL lo (j + 1)).map intV = (frL lo j).map intV ++ [intV ((j : Int) + lo)] := by simp [frL, List.range_succ]
set_option maxHeartbeats 1000000 in
theorem ref06_numbers (w : World) : Calls Tryz.prog 119 #[] w (SlPost 32 (vecN.map intV) w) := by
  have e1 : vecN = frL (-16) 32 := by kernel_rfl
  rw [e1]
  clear e1
  go_enter Tryz.func119, Tryz.ntmps119
  go_wp2_with fail
  go_loopg [1, 2] 32 (fun g v i => fun wr => ∃ (j : Nat), j + g = 32 ∧ i = .int .i64 ((j : Int) + -16) ∧ wr.ownsRow w.heap.size 3 1 v j ((frL (-16) j).map intV) ∧ Below w.heap.size w wr)
  case atStart => exact ⟨0, by omega, rfl, World.ownsRow_nil _ _ _ _, Below.refl _ _⟩
  case round =>
    obtain ⟨j, hj, rfl, ho, hb⟩ := hrel
    cases gk with
    | zero =>
      obtain rfl : j = 32 := by omega
      obtain ⟨A, c, rfl, hS⟩ := own_sl ho
      go_wp2_with fail
      go_ret
      exact ⟨A, c, rfl, hS, hb⟩
    | succ g =>
      have hlt : (j : Int) + -16 ≤ 15 := by omega
      have hw : IntKind.i64.wrap ((j : Int) + -16 + 1) = (j : Int) + -16 + 1 := by rw [IntKind.wrap_i64]; omega
      have Ho := Lib.hid ho; clear ho
      have hbs := hb.size
      have HJ := Lib.hid hj
      obtain ⟨d, hd⟩ : ∃ d, (j : Int) + -16 = d := ⟨_, rfl⟩
      rw [hd] at hlt hw ⊢
      have HD := Lib.hid hd
      clear hd
      go_wp2_with (at_builtin; refine wpList_app etInt rfl rfl rfl (Ho.out.alloc _) rfl (m := 1) (news := [intV d]) rfl (Blk.sl (Blk.new wr 3 #[intV d]) 0) (by intro u hu; simp [intV] at hu; subst hu; rfl) (by omega) (by simp; omega) ?_; intro v1 w1 ho1 hg1 _; have Ho1 := Lib.hid ho1; clear ho1; have Hg1 := Lib.hid hg1; clear hg1)
      go_roundg g
      case measure => omega
      case rel =>
        refine ⟨j + 1, by omega, by have := HD.out; subst this; push_cast; congr 1; omega, ?_, below_app (hb.alloc hb.size _) (Ho.out.alloc _) Hg1.out (by have := hb.size; simp; omega) (Nat.le_refl _)⟩
        rw [frL_succ, HD.out]; exact Ho1.out
set_option maxRecDepth 100000 in
set_option maxHeartbeats 1000000 in
theorem ref06_Get (A : Option Addr) (n c : Nat) (l : List UInt8) (i : Int) (w : World) (hA : Sl w A (l.map byteV)) (hn : l.length = n) (hsz : n ≤ 2 ^ 47) (hi : -9223372036854775808 ≤ i ∧ i ≤ 9223372036854775807) :
    Calls Tryz.prog 80 #[.slice A n c, .int .i64 i] w fun e w' => e = .returned (.tuple #[.int .i64 (treeR vecC vecN l i).1, .int .i64 (treeR vecC vecN l i).2.1, .int .i64 (treeR vecC vecN l i).2.2]) ∧ Below w.heap.size w w' := by
  have Gt := Lib.hid (fun (b : Nat) (W : World) (h : TreeAt W b 32 vecC vecN) (hA : Sl W A (l.map byteV)) => ref03_Get b A n 32 c vecC vecN l i W h rfl rfl (by decide) (by kernel_rfl) hA hn hsz hi)
  have MK := Lib.hid (fun (X Y : Option Addr) (y : Nat) (W : World) (h1 : Sl W X (vecC.map strV)) (h2 : Sl W Y (vecN.map intV)) => ref03_Make X Y 32 32 y vecC vecN W h1 h2 rfl rfl (by decide) (by decide) (by kernel_rfl) (by kernel_rfl))
  have HA := Lib.hid hA; clear hA hn
  generalize treeR vecC vecN l i = R at Gt ⊢
  obtain ⟨r1, r2, r3⟩ := R
  go_enter Tryz.func80, Tryz.ntmps80
  go_wp2_with fail
  refine (ref06_Codes w).mono ?_
  rintro e w1 ⟨⟨X, rfl, hX⟩, hb1⟩
  have B1 := Lib.hid hb1; have HX := Lib.hid hX; clear hb1 hX
  go_wp2_with fail
  refine (ref06_numbers w1).mono ?_
  rintro e w2 ⟨Y, y, rfl, hY, hb2⟩
  have HX2 := Lib.hid (HX.out.below hb2)
  have B2 := Lib.hid (B1.out.trans (hb2.mono B1.out.size)); have HY := Lib.hid hY; clear hb2 hY B1
  go_wp2_with fail
  refine (MK.out X Y y w2 HX2.out HY.out).mono ?_
  rintro e w3 ⟨b, rfl, hT, hb3⟩
  have B3 := Lib.hid (B2.out.trans (hb3.mono B2.out.size)); have HT := Lib.hid hT; clear hb3 hT B2
  go_wp2_with fail
  refine (Gt.out b w3 HT.out (HA.out.below B3.out)).mono ?_
  rintro e w4 ⟨rfl, hb4⟩
  have B4 := Lib.hid (B3.out.trans (hb4.mono B3.out.size)); clear hb4 B3
  go_wp2_with fail
  go_ret3
  exact ⟨rfl, B4.out⟩
theorem ref06_part (n : Int) (w : World) : Calls Tryz.prog 101 #[.int .i64 n] w fun e w' => e = .returned (.bool (partB n)) ∧ w = w' := by
  unfold partB
  by_cases h1 : -15 ≤ n
  · have e1 : decide (-15 ≤ n) = true := by simpa using h1
    rw [e1, Bool.true_and]
    go_enter Tryz.func101, Tryz.ntmps101
    go_wp2_with fail
    go_ret
    exact ⟨rfl, rfl⟩
  · have e1 : decide (-15 ≤ n) = false := by simpa using h1
    rw [e1, Bool.false_and]
    go_enter Tryz.func101, Tryz.ntmps101
    go_wp2_with fail
    go_ret
    exact ⟨rfl, rfl⟩
theorem turn_ref {pr d : Int} (h1 : partB pr = true) (h2 : -16 ≤ d) (h3 : d ≤ 15) : turnP pr d = if partB (pr + d) then (pr + d, 0) else if partB (pr + if d < 0 then d + 32 else d - 32) then (pr + (if d < 0 then d + 32 else d - 32), 0) else (0, 12) := by
  unfold turnP
  have hp : -15 ≤ pr ∧ pr ≤ 15 := by unfold partB at h1; simpa using h1
  rw [h1, show decide (d < -16) = false by simp; omega, show decide (15 < d) = false by simp; omega, if_neg (by decide)]
  by_cases hd : d < 0
  · rw [if_pos hd]
    have : partB (pr + d - 32) = false := by unfold partB; simp; omega
    rw [this]
    simp only [Int.add_assoc]
    rfl
  · rw [if_neg hd]
    have : partB (pr + d + 32) = false := by unfold partB; simp; omega
    rw [this, show pr + (d - 32) = pr + d - 32 by omega]
    rfl
set_option maxHeartbeats 1000000 in
theorem ref06_Turn (pr d : Int) (w : World) (h1 : partB pr = true) (h2 : -16 ≤ d) (h3 : d ≤ 15) : Calls Tryz.prog 81 #[.int .i64 pr, .int .i64 d] w fun e w' => e = .returned (.tuple #[.int .i64 (turnP pr d).1, .int .i64 (turnP pr d).2]) ∧ w = w' := by
  have hp : -15 ≤ pr ∧ pr ≤ 15 := by unfold partB at h1; simpa using h1
  rw [turn_ref h1 h2 h3]
  have q0 : decide (d < -16) = false := by simp; omega
  have q1 : decide (15 < d) = false := by simp; omega
  obtain ⟨o, ho⟩ : ∃ o, (if d < 0 then d + 32 else d - 32) = o := ⟨_, rfl⟩
  rw [ho]
  have P0 := ref06_part pr w
  rw [h1] at P0
  have H0 := Lib.hid P0; have H1 := Lib.hid (ref06_part (pr + d) w); have H2 := Lib.hid (ref06_part (pr + o) w)
  have w1 : IntKind.i64.wrap (pr + d) = pr + d := by rw [IntKind.wrap_i64]; omega
  have w2 : IntKind.i64.wrap (pr + o) = pr + o := by rw [IntKind.wrap_i64]; split at ho <;> omega
  have w3 : IntKind.i64.wrap (d - 32) = d - 32 := by rw [IntKind.wrap_i64]; omega
  have w4 : IntKind.i64.wrap (d + 32) = d + 32 := by rw [IntKind.wrap_i64]; omega
  clear P0 h1
  obtain ⟨a, ha⟩ : ∃ a, pr + d = a := ⟨_, rfl⟩
  obtain ⟨c, hc⟩ : ∃ c, pr + o = c := ⟨_, rfl⟩
  rw [ha] at w1 H1 ⊢
  rw [hc] at w2 H2 ⊢
  obtain ⟨p1, hp1⟩ : ∃ p1, partB a = p1 := ⟨_, rfl⟩
  obtain ⟨p2, hp2⟩ : ∃ p2, partB c = p2 := ⟨_, rfl⟩
  rw [hp1] at H1 ⊢
  rw [hp2] at H2 ⊢
  have HO := Lib.hid ho
  clear hp1 hp2 ho hp h2 h3
  have hcs : (d < 0 ∧ d + 32 = o) ∨ (¬ d < 0 ∧ d - 32 = o) := by
    have := HO.out
    by_cases hd : d < 0
    · rw [if_pos hd] at this; exact .inl ⟨hd, this⟩
    · rw [if_neg hd] at this; exact .inr ⟨hd, this⟩
  clear HO
  rcases hcs with ⟨hd, rfl⟩ | ⟨hd, rfl⟩
  · have q2 : decide (d < 0) = true := by simpa using hd
    clear hd
    cases p1 with
    | true =>
      go_enter Tryz.func81, Tryz.ntmps81
      go_wp2_with (first | (go_at_call 101; refine H0.out.mono ?_; rintro e w' ⟨rfl, rfl⟩; clear H0) | (go_at_call 101; refine H1.out.mono ?_; rintro e w' ⟨rfl, rfl⟩; clear H1))
      go_ret2
      exact ⟨rfl, rfl⟩
    | false =>
      cases p2 with
      | true =>
        go_enter Tryz.func81, Tryz.ntmps81
        go_wp2_with (first | (go_at_call 101; refine H0.out.mono ?_; rintro e w' ⟨rfl, rfl⟩; clear H0) | (go_at_call 101; refine H1.out.mono ?_; rintro e w' ⟨rfl, rfl⟩; clear H1) | (go_at_call 101; refine H2.out.mono ?_; rintro e w' ⟨rfl, rfl⟩; clear H2))
        go_ret2
        exact ⟨rfl, rfl⟩
      | false =>
        go_enter Tryz.func81, Tryz.ntmps81
        go_wp2_with (first | (go_at_call 101; refine H0.out.mono ?_; rintro e w' ⟨rfl, rfl⟩; clear H0) | (go_at_call 101; refine H1.out.mono ?_; rintro e w' ⟨rfl, rfl⟩; clear H1) | (go_at_call 101; refine H2.out.mono ?_; rintro e w' ⟨rfl, rfl⟩; clear H2))
        go_ret2
        exact ⟨rfl, rfl⟩
  · have q2 : decide (d < 0) = false := by simpa using hd
    clear hd
    cases p1 with
    | true =>
      go_enter Tryz.func81, Tryz.ntmps81
      go_wp2_with (first | (go_at_call 101; refine H0.out.mono ?_; rintro e w' ⟨rfl, rfl⟩; clear H0) | (go_at_call 101; refine H1.out.mono ?_; rintro e w' ⟨rfl, rfl⟩; clear H1))
      go_ret2
      exact ⟨rfl, rfl⟩
    | false =>
      cases p2 with
      | true =>
        go_enter Tryz.func81, Tryz.ntmps81
        go_wp2_with (first | (go_at_call 101; refine H0.out.mono ?_; rintro e w' ⟨rfl, rfl⟩; clear H0) | (go_at_call 101; refine H1.out.mono ?_; rintro e w' ⟨rfl, rfl⟩; clear H1) | (go_at_call 101; refine H2.out.mono ?_; rintro e w' ⟨rfl, rfl⟩; clear H2))
        go_ret2
        exact ⟨rfl, rfl⟩
      | false =>
        go_enter Tryz.func81, Tryz.ntmps81
        go_wp2_with (first | (go_at_call 101; refine H0.out.mono ?_; rintro e w' ⟨rfl, rfl⟩; clear H0) | (go_at_call 101; refine H1.out.mono ?_; rintro e w' ⟨rfl, rfl⟩; clear H1) | (go_at_call 101; refine H2.out.mono ?_; rintro e w' ⟨rfl, rfl⟩; clear H2))
        go_ret2
        exact ⟨rfl, rfl⟩
theorem ref06_Predict (ad d : Int) (had : Bool) (x y : Int) (w : World) : Calls Tryz.prog 40 #[.int .i64 ad, .int .i64 d, .bool had, .int .i64 x, .int .i64 y] w fun e w' => e = .returned (.tuple #[.int .i64 (predP ad d had x y).1, .int .i64 (predP ad d had x y).2]) ∧ w = w' := by
  unfold predP newB
  obtain ⟨a, ha⟩ : ∃ a, (ad == 1) = a := ⟨_, rfl⟩
  obtain ⟨b, hb⟩ : ∃ b, (ad == 12) = b := ⟨_, rfl⟩
  obtain ⟨c, hc⟩ : ∃ c, (ad == 23) = c := ⟨_, rfl⟩
  obtain ⟨e, he⟩ : ∃ e, (d != 1) = e := ⟨_, rfl⟩
  rw [ha, hb, hc, he]
  cases a <;> cases b <;> cases c <;> cases e <;> cases had <;> (go_enter Tryz.func40, Tryz.ntmps40; go_wp2_with fail; go_ret2; exact ⟨rfl, rfl⟩)
end Go.Proofs.YtcojnigkgbmbmaaGreatDoor
namespace Go.Proofs.YtcojnigkgbmbmaaGreatDoor
open Go Go.RowKit
set_option maxRecDepth 100000 in
theorem ref07_codes (w : World) : Calls Tryz.prog 120 #[] w fun e w' => (∃ A, e = .returned (.slice A 63 63) ∧ Sl w' A (patC.map strV)) ∧ Below w.heap.size w w' := by
  go_enter Tryz.func120, Tryz.ntmps120
  go_wp2_with fail
  go_ret
  exact ⟨⟨_, rfl, Blk.sl (Blk.new w 9 (patC.map strV).toArray) 0⟩, (Below.refl _ _).alloc (Nat.le_refl _) _⟩
set_option maxRecDepth 100000 in
set_option maxHeartbeats 1000000 in
theorem ref07_Tree (w : World) : Calls Tryz.prog 82 #[] w (TreeIs 63 patC patN w) := by
  have e1 : frL 1 63 = patN := by kernel_rfl
  have E1 := Lib.hid e1
  have MK := Lib.hid (fun (X Y : Option Addr) (y : Nat) (W : World) (h1 : Sl W X (patC.map strV)) (h2 : Sl W Y (patN.map intV)) => ref03_Make X Y 63 63 y patC patN W h1 h2 rfl rfl (by decide) (by decide) (by kernel_rfl) (by kernel_rfl))
  clear e1
  go_enter Tryz.func82, Tryz.ntmps82
  go_wp2_with fail
  go_loopg [1, 2] 63 (fun g v i => fun wr => ∃ (j : Nat), j + g = 63 ∧ i = .int .i64 ((j : Int) + 1) ∧ wr.ownsRow w.heap.size 3 1 v j ((frL 1 j).map intV) ∧ Below w.heap.size w wr)
  case atStart => exact ⟨0, by omega, rfl, World.ownsRow_nil _ _ _ _, Below.refl _ _⟩
  case round =>
    obtain ⟨j, hj, rfl, ho, hb⟩ := hrel
    cases gk with
    | zero =>
      obtain rfl : j = 63 := by omega
      rw [E1.out] at ho
      obtain ⟨Y, y, rfl, hS⟩ := own_sl ho
      have HY := Lib.hid hS; have B1 := Lib.hid hb
      clear ho hS hb
      go_wp2_with fail
      refine (ref07_codes wr).mono ?_
      rintro e w2 ⟨⟨X, rfl, hX⟩, hb2⟩
      have HY2 := Lib.hid (HY.out.below hb2); have HX := Lib.hid hX
      have B2 := Lib.hid (B1.out.trans (hb2.mono B1.out.size)); clear hb2 hX B1
      go_wp2_with fail
      refine (MK.out X Y y w2 HX.out HY2.out).mono ?_
      rintro e w3 ⟨b, rfl, hT, hb3⟩
      have B3 := Lib.hid (B2.out.trans (hb3.mono B2.out.size)); have HT := Lib.hid hT; clear hb3 hT B2
      go_wp2_with fail
      go_ret
      exact ⟨b, rfl, HT.out, B3.out⟩
    | succ g =>
      have hlt : (j : Int) + 1 ≤ 63 := by omega
      have hw : IntKind.i64.wrap ((j : Int) + 1 + 1) = (j : Int) + 1 + 1 := by rw [IntKind.wrap_i64]; omega
      have Ho := Lib.hid ho; clear ho
      have hbs := hb.size
      have HJ := Lib.hid hj
      obtain ⟨d, hd⟩ : ∃ d, (j : Int) + 1 = d := ⟨_, rfl⟩
      rw [hd] at hlt hw ⊢
      have HD := Lib.hid hd
      clear hd
      go_wp2_with (at_builtin; refine wpList_app etInt rfl rfl rfl (Ho.out.alloc _) rfl (m := 1) (news := [intV d]) rfl (Blk.sl (Blk.new wr 3 #[intV d]) 0) (by intro u hu; simp [intV] at hu; subst hu; rfl) (by omega) (by simp; omega) ?_; intro v1 w1 ho1 hg1 _; have Ho1 := Lib.hid ho1; clear ho1; have Hg1 := Lib.hid hg1; clear hg1)
      go_roundg g
      case measure => omega
      case rel =>
        refine ⟨j + 1, by omega, by have := HD.out; subst this; push_cast; rfl, ?_, below_app (hb.alloc hb.size _) (Ho.out.alloc _) Hg1.out (by have := hb.size; simp; omega) (Nat.le_refl _)⟩
        rw [frL_succ, HD.out]; exact Ho1.out
theorem ref07_Get (A : Option Addr) (n c : Nat) (l : List UInt8) (i : Int) (w : World) (hA : Sl w A (l.map byteV)) (hn : l.length = n) (hsz : n ≤ 2 ^ 47) (hi : -9223372036854775808 ≤ i ∧ i ≤ 9223372036854775807) :
    Calls Tryz.prog 42 #[.slice A n c, .int .i64 i] w fun e w' => e = .returned (.tuple #[.int .i64 (treeR patC patN l i).1, .int .i64 (treeR patC patN l i).2.1, .int .i64 (treeR patC patN l i).2.2]) ∧ Below w.heap.size w w' := by
  have Gt := Lib.hid (fun (b : Nat) (W : World) (h : TreeAt W b 63 patC patN) (hA : Sl W A (l.map byteV)) => ref03_Get b A n 63 c patC patN l i W h rfl rfl (by decide) (by kernel_rfl) hA hn hsz hi)
  have HA := Lib.hid hA; clear hA hn
  generalize treeR patC patN l i = R at Gt ⊢
  obtain ⟨r1, r2, r3⟩ := R
  go_enter Tryz.func42, Tryz.ntmps42
  go_wp2_with fail
  refine (ref07_Tree w).mono ?_
  rintro e w1 ⟨b, rfl, hT, hb1⟩
  have B1 := Lib.hid hb1; have HT := Lib.hid hT; clear hb1 hT
  go_wp2_with fail
  refine (Gt.out b w1 HT.out (HA.out.below B1.out)).mono ?_
  rintro e w2 ⟨rfl, hb2⟩
  have B2 := Lib.hid (B1.out.trans (hb2.mono B1.out.size)); clear hb2 B1
  go_wp2_with fail
  go_ret3
  exact ⟨rfl, B2.out⟩
def hasP (p : Int) (i : Nat) : Bool := decide (1 ≤ p) && decide (p ≤ 63) && (p / (2 : Int) ^ (6 - i) % 2 == 1)
set_option maxHeartbeats 1000000 in
theorem ref07_Has (p : Int) (i : Nat) (h1 : 1 ≤ i) (h6 : i ≤ 6) (w : World) : Calls Tryz.prog 83 #[.int .i64 p, .int .i64 (i : Int)] w fun e w' => e = .returned (.bool (hasP p i)) ∧ w = w' := by
  unfold hasP
  by_cases hp : 1 ≤ p
  · have e1 : decide (1 ≤ p) = true := by simpa using hp
    rw [e1]
    by_cases hq : p ≤ 63
    · have e2 : decide (p ≤ 63) = true := by simpa using hq
      rw [e2]
      have hi : i = 1 ∨ i = 2 ∨ i = 3 ∨ i = 4 ∨ i = 5 ∨ i = 6 := by omega
      rcases hi with rfl | rfl | rfl | rfl | rfl | rfl
      all_goals
        go_enter Tryz.func83, Tryz.ntmps83
        go_wp2_with fail
        go_ret
        first | exact ⟨rfl, rfl⟩ | exact ⟨by simp, rfl⟩
    · have e2 : decide (p ≤ 63) = false := by simpa using hq
      rw [e2]
      go_enter Tryz.func83, Tryz.ntmps83
      go_wp2_with fail
      go_ret
      exact ⟨rfl, rfl⟩
  · have e1 : decide (1 ≤ p) = false := by simpa using hp
    rw [e1]
    go_enter Tryz.func83, Tryz.ntmps83
    go_wp2_with fail
    go_ret
    exact ⟨rfl, rfl⟩
def hasC (p : Int) : Nat → Nat
  | 0 => 0
  | j + 1 => hasC p j + (if hasP p (j + 1) then 1 else 0)
theorem hasC_cnt (p : Int) : hasC p 6 = cntP p := by
  unfold cntP
  by_cases h : 1 ≤ p ∧ p ≤ 63
  · rw [if_pos h]
    obtain ⟨k, rfl⟩ := Int.eq_ofNat_of_zero_le (by omega : 0 ≤ p)
    have e1 : decide ((1 : Int) ≤ (k : Int)) = true := by simpa using h.1
    have e2 : decide ((k : Int) ≤ 63) = true := by simpa using h.2
    have hh : ∀ i m : Nat, (2 : Int) ^ (6 - i) = (m : Int) → (if hasP (k : Int) i then 1 else 0) = k / m % 2 := fun i m hm => by
      unfold hasP
      rw [e1, e2, hm]
      by_cases hz : ((k : Int) / (m : Int) % 2 == 1) = true
      · rw [hz, if_pos (by decide)]
        have : (k : Int) / (m : Int) % 2 = 1 := by simpa using hz
        have : k / m % 2 = 1 := by exact_mod_cast this
        omega
      · rw [Bool.not_eq_true] at hz
        rw [hz, if_neg (by decide)]
        have : ¬ (k : Int) / (m : Int) % 2 = 1 := by simpa using hz
        have : ¬ k / m % 2 = 1 := fun h => this (by exact_mod_cast h)
        omega
    unfold hasC hasC hasC hasC hasC hasC hasC
    rw [hh 1 32 rfl, hh 2 16 rfl, hh 3 8 rfl, hh 4 4 rfl, hh 5 2 rfl, hh 6 1 rfl, Int.toNat_natCast, Nat.div_one]
    omega
  · rw [if_neg h]
    have hh : ∀ i, hasP p i = false := fun i => by
      unfold hasP
      by_cases h1 : 1 ≤ p
      · rw [show decide (p ≤ 63) = false by simp; omega, Bool.and_false, Bool.false_and]
      · rw [show decide (1 ≤ p) = false by simp; omega, Bool.false_and, Bool.false_and]
    unfold hasC hasC hasC hasC hasC hasC hasC
    simp [hh]
theorem hasC_le (p : Int) : ∀ j, hasC p j ≤ j
  | 0 => Nat.le_refl _
  | j + 1 => by unfold hasC; have := hasC_le p j; split <;> omega
set_option maxHeartbeats 1000000 in
theorem ref07_Count (p : Int) (w : World) : Calls Tryz.prog 43 #[.int .i64 p] w fun e w' => e = .returned (.int .i64 (cntP p : Nat)) ∧ w = w' := by
  go_enter Tryz.func43, Tryz.ntmps43
  go_wp2_with fail
  go_loopg [3, 4] 6 (fun g t s => fun wx => ∃ (q : Nat), q + g = 6 ∧ t = .int .i64 (hasC p q : Nat) ∧ s = .int .i64 ((q : Int) + 1) ∧ w = wx)
  case atStart => exact ⟨0, by omega, rfl, rfl, rfl⟩
  case round =>
    obtain ⟨q, hq, rfl, rfl, rfl⟩ := hrel
    have hle := hasC_le p q
    have hw : IntKind.i64.wrap ((q : Int) + 1 + 1) = (q : Int) + 1 + 1 := by rw [IntKind.wrap_i64]; omega
    cases gk with
    | zero =>
      obtain rfl : q = 6 := by omega
      rw [hasC_cnt]
      go_wp2_with fail
      go_ret
      exact ⟨rfl, rfl⟩
    | succ g =>
      have hlt : (q : Int) + 1 ≤ 6 := by omega
      have HS := Lib.hid (show hasC p (q + 1) = hasC p q + (if hasP p (q + 1) then 1 else 0) from rfl)
      have C := Lib.hid (ref07_Has p (q + 1) (by omega) (by omega) w)
      rw [Int.natCast_add, Int.natCast_one] at C
      have HQ := Lib.hid hq
      have HD := Lib.hid (show ((q + 1 : Nat) : Int) + 1 = (q : Int) + 1 + 1 by omega)
      obtain ⟨d, hd⟩ : ∃ d, (q : Int) + 1 = d := ⟨_, rfl⟩
      rw [hd] at hlt hw C HD ⊢
      obtain ⟨z, hz⟩ : ∃ z, hasC p q = z := ⟨_, rfl⟩
      rw [hz] at hle HS ⊢
      have hw2 : IntKind.i64.wrap ((z : Int) + 1) = (z : Int) + 1 := by rw [IntKind.wrap_i64]; omega
      clear hd hz
      obtain ⟨b, hb⟩ : ∃ b, hasP p (q + 1) = b := ⟨_, rfl⟩
      rw [hb] at C HS
      clear hb hle
      cases b with
      | true =>
        go_wp2_with (go_at_call 83; refine C.out.mono ?_; rintro e w' ⟨rfl, rfl⟩; clear C)
        go_roundg g
        case measure => omega
        case rel => exact ⟨q + 1, by have := HQ.out; omega, by rw [HS.out]; rfl, by rw [HD.out], rfl⟩
      | false =>
        go_wp2_with (go_at_call 83; refine C.out.mono ?_; rintro e w' ⟨rfl, rfl⟩; clear C)
        go_roundg g
        case measure => omega
        case rel => exact ⟨q + 1, by have := HQ.out; omega, by rw [HS.out]; rfl, by rw [HD.out], rfl⟩
end Go.Proofs.YtcojnigkgbmbmaaGreatDoor
