/- Rd -/
import Derived.Test.YtcojnigkgbmbmaaGreatDoorK16
import Derived.Test.YtcojnigkgbmbmaaGreatDoorK18
import Derived.Test.YtcojnigkgbmbmaaGreatDoorK21
import Derived.Test.YtcojnigkgbmbmaaGreatDoorK28
namespace Go.Proofs.YtcojnigkgbmbmaaGreatDoor
open Go Go.RowKit
attribute [local go_sem] Oper.semAt_some
/-- a reader's state. -/
structure RdS where
  a : Int
  pt : Bool × Bool × Bool × Bool × Bool
  ad : Int
  kd : Int
  qu : Int
  mx : Int
  my : Int
  pa : Int
  v : Value
  x : Int
  y : Int
def rdC (A : Option Addr) (n c : Nat) (s : RdS) : Array Value := #[.slice A n c, .int .i64 s.a, .bool s.pt.1, .bool s.pt.2.1, .bool s.pt.2.2.1, .bool s.pt.2.2.2.1, .bool s.pt.2.2.2.2, .int .i64 s.ad, .int .i64 s.kd, .int .i64 s.qu, .int .i64 s.mx, .int .i64 s.my, .int .i64 s.pa, s.v, .int .i64 s.x, .int .i64 s.y]
def ptK (k : Int) : Bool × Bool × Bool × Bool × Bool := if inK k then (pI k, pQ k, pV k, pF k, pC k) else (false, false, false, false, false)
theorem ofV_pt (k : Int) : ofV k = [.bool (ptK k).1, .bool (ptK k).2.1, .bool (ptK k).2.2.1, .bool (ptK k).2.2.2.1, .bool (ptK k).2.2.2.2] := by
  unfold ofV ptK
  split <;> rfl
/-- of what lay in A nothing has turned but block g. -/
abbrev TurnG (g : Nat) (A B : World) : Prop := Turn (fun k => k = g) A B
theorem turn_then {g : Nat} {w w' w'' : World} (h : TurnG g w w') (hb : Below w'.heap.size w' w'') : TurnG g w w'' := h.trans (Turn.of_below hb)
theorem turn_drew {g : Nat} {w w' : World} (h : TurnG g w w') : TurnG g w w'.drew := h.trans ⟨rfl, rfl, rfl, Nat.le_refl _, fun _ _ _ => rfl⟩
theorem turn_set {g : Nat} {w w' : World} (h : TurnG g w w') (i : Nat) (v : Value) : TurnG g w (w'.setCell ⟨g, i, none⟩ v) := h.set (.inl rfl) v
set_option maxRecDepth 100000 in
set_option maxHeartbeats 4000000 in
theorem rd_kind (g : Nat) (A : Option Addr) (n c : Nat) (l : List UInt8) (s : RdS) (w : World) (hb : Blk w g 61 (rdC A n c s)) (hA : Sl w A (l.map byteV)) (hn : l.length = n) (hsz : n ≤ 2 ^ 47) (hi : -9223372036854775808 ≤ s.a ∧ s.a ≤ 9223372036854775807) (a2 : Int) (ha2 : IntKind.i64.wrap (s.a + (treeR kindC kindN l s.a).2.1) = a2) :
    Calls Tryz.prog 72 #[.pointer (some ⟨g, 0, none⟩)] w fun e w' => e = .returned (.int .i64 (treeR kindC kindN l s.a).2.2) ∧ Blk w' g 61 (rdC A n c { s with a := a2, kd := (treeR kindC kindN l s.a).1, pt := ptK (treeR kindC kindN l s.a).1 }) ∧ TurnG g w w' := by
  obtain ⟨a, ⟨t0, t1, t2, t3, t4⟩, ad, kd, qu, mx, my, pa, v, x, y⟩ := s
  dsimp only at hi ha2 ⊢
  have G := Lib.hid (fun W hW => kind_Get A n c l a W hW hn hsz hi)
  have CO := Lib.hid (fun W => kind_Of (treeR kindC kindN l a).1 W)
  rw [ofV_pt] at CO
  generalize ptK (treeR kindC kindN l a).1 = np at *
  obtain ⟨⟨rk, rn, re⟩, hr⟩ : ∃ r, treeR kindC kindN l a = r := ⟨_, rfl⟩
  rw [hr] at G CO ha2 ⊢
  dsimp only at G CO ha2 ⊢
  obtain ⟨n0, n1, n2, n3, n4⟩ := np
  dsimp only at CO
  unfold rdC at *
  dsimp only at *
  generalize ofE rk = oe at CO
  have HB := Lib.hid hb; have HA := Lib.hid hA; have HW := Lib.hid ha2
  have hw : IntKind.i64.wrap (a + rn) = a2 := ha2
  have hbd : Blk w.drew g 61 _ := hb.drewN 1
  have y0 := hbd.cell 0; have y1 := hbd.cell 1
  have HBd := Lib.hid hbd
  have HAd := Lib.hid (show Sl w.drew A (l.map byteV) from hA)
  clear hb hA hr hi ha2 hbd hn hsz
  go_enter Tryz.func72, Tryz.ntmps72
  go_wp2_with fail
  refine wp_region_treeN (fun w' => w'.cell? ⟨g, 0, none⟩ = some (.slice A n c) ∧ w'.cell? ⟨g, 1, none⟩ = some (.int .i64 a)) 19 (.take 0 (.take 1 (.take 2 (.take 3 (.take 4 (.take 5 (.take 6 (.take 7 (.take 8 (.step 9 (.take 10 (.take 11 (.take 12 (.take 13 (.take 14 (.take 15 (.take 16 (.step 17 (.step 18 .done))))))))))))))))))) (by kernel_rfl) (by kernel_rfl) (by simp only [Pln.out, Array.getD_eq_getD_getElem?, List.getElem?_toArray, List.getElem?_cons_zero, List.getElem?_cons_succ, Option.getD_some]; rfl) (by simp only [List.map_cons, List.map_nil]; rfl) (⟨y0, y1⟩) (fun PE hPE => ?_)
  refine tree_take (v := ?_) rfl (by rfl) ?_ ?_
  rotate_left
  · intro _ hSw; (try dsimp only at hSw); obtain ⟨s0, s1⟩ := hSw; go_simp; (try with_reducible rfl)
  simp only [List.setIfInBounds_toArray, List.set_cons_zero, List.set_cons_succ]
  refine tree_take (v := ?_) rfl (by rfl) ?_ ?_
  rotate_left
  · intro _ hSw; (try dsimp only at hSw); obtain ⟨s0, s1⟩ := hSw; go_simp; (try with_reducible rfl)
  simp only [List.setIfInBounds_toArray, List.set_cons_zero, List.set_cons_succ]
  refine tree_take (v := ?_) rfl (by rfl) ?_ ?_
  rotate_left
  · intro _ hSw; (try dsimp only at hSw); obtain ⟨s0, s1⟩ := hSw; go_simp; (try with_reducible rfl)
  simp only [List.setIfInBounds_toArray, List.set_cons_zero, List.set_cons_succ]
  refine tree_take (v := ?_) rfl (by rfl) ?_ ?_
  rotate_left
  · intro _ hSw; (try dsimp only at hSw); obtain ⟨s0, s1⟩ := hSw; go_simp; (try with_reducible rfl)
  simp only [List.setIfInBounds_toArray, List.set_cons_zero, List.set_cons_succ]
  refine tree_take (v := ?_) rfl (by rfl) ?_ ?_
  rotate_left
  · intro _ hSw; (try dsimp only at hSw); obtain ⟨s0, s1⟩ := hSw; go_simp; (try with_reducible rfl)
  simp only [List.setIfInBounds_toArray, List.set_cons_zero, List.set_cons_succ]
  refine tree_take (v := ?_) rfl (by rfl) ?_ ?_
  rotate_left
  · intro _ hSw; (try dsimp only at hSw); obtain ⟨s0, s1⟩ := hSw; go_simp; (try with_reducible rfl)
  simp only [List.setIfInBounds_toArray, List.set_cons_zero, List.set_cons_succ]
  refine tree_take (v := ?_) rfl (by rfl) ?_ ?_
  rotate_left
  · intro _ hSw; (try dsimp only at hSw); obtain ⟨s0, s1⟩ := hSw; go_simp; (try with_reducible rfl)
  simp only [List.setIfInBounds_toArray, List.set_cons_zero, List.set_cons_succ]
  refine tree_take (v := ?_) rfl (by rfl) ?_ ?_
  rotate_left
  · intro _ hSw; (try dsimp only at hSw); obtain ⟨s0, s1⟩ := hSw; go_simp; (try with_reducible rfl)
  simp only [List.setIfInBounds_toArray, List.set_cons_zero, List.set_cons_succ]
  refine tree_take (v := ?_) rfl (by rfl) ?_ ?_
  rotate_left
  · intro _ hSw; (try dsimp only at hSw); obtain ⟨s0, s1⟩ := hSw; go_simp; (try with_reducible rfl)
  simp only [List.setIfInBounds_toArray, List.set_cons_zero, List.set_cons_succ]
  refine tree_call (f := 109) rfl (by rfl) (by first | (go_simp; done) | (go_simp; rfl)) (G.out _ HAd.out) ?_
  rintro e w2 ⟨rfl, hb2⟩
  have hL2 := HBd.out.below hb2 HBd.out.lt
  have HT2 := Lib.hid (turn_then (turn_drew (Turn.refl (fun k => k = g) w)) hb2)
  refine ⟨_, rfl, _, fun _ h => h, ⟨hL2.cell 0, hL2.cell 1⟩, ?_⟩
  simp only [List.setIfInBounds_toArray, List.set_cons_zero, List.set_cons_succ]
  refine tree_take (v := ?_) rfl (by rfl) ?_ ?_
  rotate_left
  · intro _ hSw; (try dsimp only at hSw); go_simp; (try with_reducible rfl)
  simp only [List.setIfInBounds_toArray, List.set_cons_zero, List.set_cons_succ]
  refine tree_take (v := ?_) rfl (by rfl) ?_ ?_
  rotate_left
  · intro _ hSw; (try dsimp only at hSw); go_simp; (try with_reducible rfl)
  simp only [List.setIfInBounds_toArray, List.set_cons_zero, List.set_cons_succ]
  refine tree_take (v := ?_) rfl (by rfl) ?_ ?_
  rotate_left
  · intro _ hSw; (try dsimp only at hSw); go_simp; (try with_reducible rfl)
  simp only [List.setIfInBounds_toArray, List.set_cons_zero, List.set_cons_succ]
  refine tree_take (v := ?_) rfl (by rfl) ?_ ?_
  rotate_left
  · intro _ hSw; (try dsimp only at hSw); go_simp; (try with_reducible rfl)
  simp only [List.setIfInBounds_toArray, List.set_cons_zero, List.set_cons_succ]
  refine tree_take (v := ?_) rfl (by rfl) ?_ ?_
  rotate_left
  · intro _ hSw; (try dsimp only at hSw); go_simp; (try with_reducible rfl)
  simp only [List.setIfInBounds_toArray, List.set_cons_zero, List.set_cons_succ]
  refine tree_take (v := ?_) rfl (by rfl) ?_ ?_
  rotate_left
  · intro _ hSw; (try dsimp only at hSw); go_simp; (try with_reducible rfl)
  simp only [List.setIfInBounds_toArray, List.set_cons_zero, List.set_cons_succ]
  refine tree_take (v := ?_) rfl (by rfl) ?_ ?_
  rotate_left
  · intro _ hSw; (try dsimp only at hSw); go_simp; (try with_reducible rfl)
  simp only [List.setIfInBounds_toArray, List.set_cons_zero, List.set_cons_succ]
  have k8 := hL2.cell 8; have f8 := hL2.frozen 8
  have hL3 := hL2.set_ 8 (.int .i64 rk)
  refine tree_skip _ (w' := ?_) rfl (by rfl) ?_ ?_ ?_
  rotate_left 1
  · go_simp; (first | (with_reducible rfl) | (constructor <;> with_reducible rfl) | skip)
  · exact ⟨hL3.cell 0, hL3.cell 1⟩
  refine tree_value (v := ?_) (w' := ?_) rfl (by rfl) ?_ ?_ ?_
  rotate_left 2
  · go_simp; (try (constructor <;> with_reducible rfl))
  · exact ⟨hL3.cell 0, hL3.cell 1⟩
  simp only [List.setIfInBounds_toArray, List.set_cons_zero, List.set_cons_succ]
  refine hPE _ _ ?_
  clear hPE PE
  simp only [List.drop_succ_cons, List.drop_zero, List.drop_nil]
  have HT3 := Lib.hid (turn_set HT2.out 8 (.int .i64 rk))
  have HL3 := Lib.hid hL3
  clear hL2 hL3 hb2 k8 f8 y0 y1 HBd HAd HB HA G
  generalize w2.setCell ⟨g, 8, none⟩ (.int .i64 rk) = w3 at HT3 HL3 ⊢
  have k8 : w3.cell? ⟨g, 8, none⟩ = some (.int .i64 rk) := by rw [HL3.out.cell]; rfl
  go_wp2_with fail
  refine ⟨rfl, ?_⟩
  go_wp2_with (go_at_call 47; refine (CO.out _).mono ?_; rintro e w4 ⟨rfl, hb4⟩; have HL4 := Lib.hid (HL3.out.below hb4 HL3.out.lt); have HT4 := Lib.hid (turn_then HT3.out hb4); clear hb4; have c1 : w4.cell? ⟨g, 1, none⟩ = some (.int .i64 a) := (by rw [HL4.out.cell]; rfl); have c2 : w4.cell? ⟨g, 2, none⟩ = some (.bool t0) := (by rw [HL4.out.cell]; rfl); have c3 : w4.cell? ⟨g, 3, none⟩ = some (.bool t1) := (by rw [HL4.out.cell]; rfl); have c4 : w4.cell? ⟨g, 4, none⟩ = some (.bool t2) := (by rw [HL4.out.cell]; rfl); have c5 : w4.cell? ⟨g, 5, none⟩ = some (.bool t3) := (by rw [HL4.out.cell]; rfl); have c6 : w4.cell? ⟨g, 6, none⟩ = some (.bool t4) := (by rw [HL4.out.cell]; rfl); have f1 := HL4.out.frozen 1; have f2 := HL4.out.frozen 2; have f3 := HL4.out.frozen 3; have f4 := HL4.out.frozen 4; have f5 := HL4.out.frozen 5; have f6 := HL4.out.frozen 6)
  go_ret
  have h6 := (((((HL4.out.set_ 2 (.bool n0)).set_ 3 (.bool n1)).set_ 4 (.bool n2)).set_ 5 (.bool n3)).set_ 6 (.bool n4)).set_ 1 (.int .i64 a2)
  simp only [List.setIfInBounds_toArray, List.set_cons_zero, List.set_cons_succ] at h6
  exact ⟨rfl, h6, turn_set (turn_set (turn_set (turn_set (turn_set (turn_set HT4.out 2 _) 3 _) 4 _) 5 _) 6 _) 1 _⟩
set_option maxRecDepth 100000 in
set_option maxHeartbeats 4000000 in
theorem rd_pattern (g : Nat) (A : Option Addr) (n c : Nat) (l : List UInt8) (s : RdS) (w : World) (hb : Blk w g 61 (rdC A n c s)) (hT : Ts w) (hA : Sl w A (l.map byteV)) (hn : l.length = n) (hsz : n ≤ 2 ^ 47) (hi : -9223372036854775808 ≤ s.a ∧ s.a ≤ 9223372036854775807) (a2 : Int) (ha2 : IntKind.i64.wrap (s.a + (treeR patC patN l s.a).2.1) = a2) :
    Calls Tryz.prog 75 #[.pointer (some ⟨g, 0, none⟩)] w fun e w' => e = .returned (.int .i64 (treeR patC patN l s.a).2.2) ∧ Blk w' g 61 (rdC A n c { s with a := a2, pa := (treeR patC patN l s.a).1 }) ∧ TurnG g w w' := by
  obtain ⟨a, ⟨t0, t1, t2, t3, t4⟩, ad, kd, qu, mx, my, pa, v, x, y⟩ := s
  dsimp only at hi ha2 ⊢
  have G := Lib.hid (fun W hT hW => pattern_Get A n c l a W hT hW hn hsz hi)
  obtain ⟨⟨rk, rn, re⟩, hr⟩ : ∃ r, treeR patC patN l a = r := ⟨_, rfl⟩
  rw [hr] at G ha2 ⊢
  dsimp only at G ha2 ⊢
  unfold rdC at *
  dsimp only at *
  have HB := Lib.hid hb; have HA := Lib.hid hA; have HW := Lib.hid ha2
  have hw : IntKind.i64.wrap (a + rn) = a2 := ha2
  have hbd : Blk w.drew g 61 _ := hb.drewN 1
  have y0 := hbd.cell 0; have y1 := hbd.cell 1
  have HBd := Lib.hid hbd
  have HAd := Lib.hid (show Sl w.drew A (l.map byteV) from hA)
  have HTd := Lib.hid (show Ts w.drew from hT)
  clear hb hA hr hi ha2 hbd hn hsz hT
  go_enter Tryz.func75, Tryz.ntmps75
  go_wp2_with fail
  refine wp_region_treeN (fun w' => w'.cell? ⟨g, 0, none⟩ = some (.slice A n c) ∧ w'.cell? ⟨g, 1, none⟩ = some (.int .i64 a)) 19 (.take 0 (.take 1 (.take 2 (.take 3 (.take 4 (.take 5 (.take 6 (.take 7 (.take 8 (.step 9 (.take 10 (.take 11 (.take 12 (.take 13 (.take 14 (.take 15 (.take 16 (.step 17 (.step 18 .done))))))))))))))))))) (by kernel_rfl) (by kernel_rfl) (by simp only [Pln.out, Array.getD_eq_getD_getElem?, List.getElem?_toArray, List.getElem?_cons_zero, List.getElem?_cons_succ, Option.getD_some]; rfl) (by simp only [List.map_cons, List.map_nil]; rfl) (⟨y0, y1⟩) (fun PE hPE => ?_)
  refine tree_take (v := ?_) rfl (by rfl) ?_ ?_
  rotate_left
  · intro _ hSw; (try dsimp only at hSw); obtain ⟨s0, s1⟩ := hSw; go_simp; (try with_reducible rfl)
  simp only [List.setIfInBounds_toArray, List.set_cons_zero, List.set_cons_succ]
  refine tree_take (v := ?_) rfl (by rfl) ?_ ?_
  rotate_left
  · intro _ hSw; (try dsimp only at hSw); obtain ⟨s0, s1⟩ := hSw; go_simp; (try with_reducible rfl)
  simp only [List.setIfInBounds_toArray, List.set_cons_zero, List.set_cons_succ]
  refine tree_take (v := ?_) rfl (by rfl) ?_ ?_
  rotate_left
  · intro _ hSw; (try dsimp only at hSw); obtain ⟨s0, s1⟩ := hSw; go_simp; (try with_reducible rfl)
  simp only [List.setIfInBounds_toArray, List.set_cons_zero, List.set_cons_succ]
  refine tree_take (v := ?_) rfl (by rfl) ?_ ?_
  rotate_left
  · intro _ hSw; (try dsimp only at hSw); obtain ⟨s0, s1⟩ := hSw; go_simp; (try with_reducible rfl)
  simp only [List.setIfInBounds_toArray, List.set_cons_zero, List.set_cons_succ]
  refine tree_take (v := ?_) rfl (by rfl) ?_ ?_
  rotate_left
  · intro _ hSw; (try dsimp only at hSw); obtain ⟨s0, s1⟩ := hSw; go_simp; (try with_reducible rfl)
  simp only [List.setIfInBounds_toArray, List.set_cons_zero, List.set_cons_succ]
  refine tree_take (v := ?_) rfl (by rfl) ?_ ?_
  rotate_left
  · intro _ hSw; (try dsimp only at hSw); obtain ⟨s0, s1⟩ := hSw; go_simp; (try with_reducible rfl)
  simp only [List.setIfInBounds_toArray, List.set_cons_zero, List.set_cons_succ]
  refine tree_take (v := ?_) rfl (by rfl) ?_ ?_
  rotate_left
  · intro _ hSw; (try dsimp only at hSw); obtain ⟨s0, s1⟩ := hSw; go_simp; (try with_reducible rfl)
  simp only [List.setIfInBounds_toArray, List.set_cons_zero, List.set_cons_succ]
  refine tree_take (v := ?_) rfl (by rfl) ?_ ?_
  rotate_left
  · intro _ hSw; (try dsimp only at hSw); obtain ⟨s0, s1⟩ := hSw; go_simp; (try with_reducible rfl)
  simp only [List.setIfInBounds_toArray, List.set_cons_zero, List.set_cons_succ]
  refine tree_take (v := ?_) rfl (by rfl) ?_ ?_
  rotate_left
  · intro _ hSw; (try dsimp only at hSw); obtain ⟨s0, s1⟩ := hSw; go_simp; (try with_reducible rfl)
  simp only [List.setIfInBounds_toArray, List.set_cons_zero, List.set_cons_succ]
  refine tree_call (f := 114) rfl (by rfl) (by first | (go_simp; done) | (go_simp; rfl)) (G.out _ HTd.out HAd.out) ?_
  rintro e w2 ⟨rfl, hb2⟩
  have hL2 := HBd.out.below hb2 HBd.out.lt
  have HT2 := Lib.hid (turn_then (turn_drew (Turn.refl (fun k => k = g) w)) hb2)
  refine ⟨_, rfl, _, fun _ h => h, ⟨hL2.cell 0, hL2.cell 1⟩, ?_⟩
  simp only [List.setIfInBounds_toArray, List.set_cons_zero, List.set_cons_succ]
  refine tree_take (v := ?_) rfl (by rfl) ?_ ?_
  rotate_left
  · intro _ hSw; (try dsimp only at hSw); go_simp; (try with_reducible rfl)
  simp only [List.setIfInBounds_toArray, List.set_cons_zero, List.set_cons_succ]
  refine tree_take (v := ?_) rfl (by rfl) ?_ ?_
  rotate_left
  · intro _ hSw; (try dsimp only at hSw); go_simp; (try with_reducible rfl)
  simp only [List.setIfInBounds_toArray, List.set_cons_zero, List.set_cons_succ]
  refine tree_take (v := ?_) rfl (by rfl) ?_ ?_
  rotate_left
  · intro _ hSw; (try dsimp only at hSw); go_simp; (try with_reducible rfl)
  simp only [List.setIfInBounds_toArray, List.set_cons_zero, List.set_cons_succ]
  refine tree_take (v := ?_) rfl (by rfl) ?_ ?_
  rotate_left
  · intro _ hSw; (try dsimp only at hSw); go_simp; (try with_reducible rfl)
  simp only [List.setIfInBounds_toArray, List.set_cons_zero, List.set_cons_succ]
  refine tree_take (v := ?_) rfl (by rfl) ?_ ?_
  rotate_left
  · intro _ hSw; (try dsimp only at hSw); go_simp; (try with_reducible rfl)
  simp only [List.setIfInBounds_toArray, List.set_cons_zero, List.set_cons_succ]
  refine tree_take (v := ?_) rfl (by rfl) ?_ ?_
  rotate_left
  · intro _ hSw; (try dsimp only at hSw); go_simp; (try with_reducible rfl)
  simp only [List.setIfInBounds_toArray, List.set_cons_zero, List.set_cons_succ]
  refine tree_take (v := ?_) rfl (by rfl) ?_ ?_
  rotate_left
  · intro _ hSw; (try dsimp only at hSw); go_simp; (try with_reducible rfl)
  simp only [List.setIfInBounds_toArray, List.set_cons_zero, List.set_cons_succ]
  have k8 := hL2.cell 12; have f8 := hL2.frozen 12
  have hL3 := hL2.set_ 12 (.int .i64 rk)
  refine tree_skip _ (w' := ?_) rfl (by rfl) ?_ ?_ ?_
  rotate_left 1
  · go_simp; (first | (with_reducible rfl) | (constructor <;> with_reducible rfl) | skip)
  · exact ⟨hL3.cell 0, hL3.cell 1⟩
  refine tree_value (v := ?_) (w' := ?_) rfl (by rfl) ?_ ?_ ?_
  rotate_left 2
  · go_simp; (try (constructor <;> with_reducible rfl))
  · exact ⟨hL3.cell 0, hL3.cell 1⟩
  simp only [List.setIfInBounds_toArray, List.set_cons_zero, List.set_cons_succ]
  refine hPE _ _ ?_
  clear hPE PE
  simp only [List.drop_succ_cons, List.drop_zero, List.drop_nil]
  have HT3 := Lib.hid (turn_set HT2.out 12 (.int .i64 rk))
  have HL3 := Lib.hid hL3
  clear hL2 hL3 hb2 k8 f8 y0 y1 HBd HAd HB HA G
  generalize w2.setCell ⟨g, 12, none⟩ (.int .i64 rk) = w3 at HT3 HL3 ⊢
  have c1 : w3.cell? ⟨g, 1, none⟩ = some (.int .i64 a) := by rw [HL3.out.cell]; rfl
  have f1 := HL3.out.frozen 1
  go_wp2_with fail
  refine ⟨rfl, ?_⟩
  go_wp2_with fail
  go_ret
  exact ⟨rfl, HL3.out.set_ 1 (.int .i64 a2), turn_set HT3.out 1 _⟩
set_option maxRecDepth 100000 in
set_option maxHeartbeats 4000000 in
theorem rd_quant (g : Nat) (A : Option Addr) (n c : Nat) (l : List UInt8) (s : RdS) (w : World) (hb : Blk w g 61 (rdC A n c s)) (hA : Sl w A (l.map byteV)) (q er a2 : Int)
    (hR : ∀ W, Sl W A (l.map byteV) → Calls Tryz.prog 110 #[.slice A n c, .int .i64 s.a, .int .i64 5] W fun e w' => e = .returned (.tuple #[.int .i64 q, .int .i64 er]) ∧ W = w') (ha2 : IntKind.i64.wrap (s.a + 5) = a2) (her : er = 0 ∨ er = 5) :
    Calls Tryz.prog 73 #[.pointer (some ⟨g, 0, none⟩)] w fun e w' => e = .returned (.int .i64 (if er == 0 && q == 0 then 9 else er)) ∧ Blk w' g 61 (rdC A n c { s with a := a2, qu := q }) ∧ TurnG g w w' := by
  obtain ⟨a, ⟨t0, t1, t2, t3, t4⟩, ad, kd, qu, mx, my, pa, v, x, y⟩ := s
  dsimp only at hR ha2 ⊢
  have G := Lib.hid hR
  unfold rdC at *
  dsimp only at *
  have HB := Lib.hid hb; have HA := Lib.hid hA
  have hw : IntKind.i64.wrap (a + 5) = a2 := ha2
  have hbd : Blk w.drew g 61 _ := hb.drewN 1
  have y0 := hbd.cell 0; have y1 := hbd.cell 1
  have HBd := Lib.hid hbd
  have HAd := Lib.hid (show Sl w.drew A (l.map byteV) from hA)
  obtain ⟨RES, hres⟩ : ∃ R : Int, (if er == 0 && q == 0 then 9 else er) = R := ⟨_, rfl⟩
  rw [hres]
  have HRES := Lib.hid hres
  clear hb hA hR ha2 hbd hres
  go_enter Tryz.func73, Tryz.ntmps73
  go_wp2_with fail
  refine wp_region_treeN (fun w' => w'.cell? ⟨g, 0, none⟩ = some (.slice A n c) ∧ w'.cell? ⟨g, 1, none⟩ = some (.int .i64 a)) 17 (.take 0 (.take 1 (.take 2 (.take 3 (.take 4 (.take 5 (.take 6 (.take 7 (.take 8 (.step 9 (.take 10 (.take 11 (.take 12 (.take 13 (.take 14 (.take 15 (.step 16 .done))))))))))))))))) (by kernel_rfl) (by kernel_rfl) (by simp only [Pln.out, Array.getD_eq_getD_getElem?, List.getElem?_toArray, List.getElem?_cons_zero, List.getElem?_cons_succ, Option.getD_some]; rfl) (by simp only [List.map_cons, List.map_nil]; rfl) (⟨y0, y1⟩) (fun PE hPE => ?_)
  refine tree_take (v := ?_) rfl (by rfl) ?_ ?_
  rotate_left
  · intro _ hSw; (try dsimp only at hSw); obtain ⟨s0, s1⟩ := hSw; go_simp; (try with_reducible rfl)
  simp only [List.setIfInBounds_toArray, List.set_cons_zero, List.set_cons_succ]
  refine tree_take (v := ?_) rfl (by rfl) ?_ ?_
  rotate_left
  · intro _ hSw; (try dsimp only at hSw); obtain ⟨s0, s1⟩ := hSw; go_simp; (try with_reducible rfl)
  simp only [List.setIfInBounds_toArray, List.set_cons_zero, List.set_cons_succ]
  refine tree_take (v := ?_) rfl (by rfl) ?_ ?_
  rotate_left
  · intro _ hSw; (try dsimp only at hSw); obtain ⟨s0, s1⟩ := hSw; go_simp; (try with_reducible rfl)
  simp only [List.setIfInBounds_toArray, List.set_cons_zero, List.set_cons_succ]
  refine tree_take (v := ?_) rfl (by rfl) ?_ ?_
  rotate_left
  · intro _ hSw; (try dsimp only at hSw); obtain ⟨s0, s1⟩ := hSw; go_simp; (try with_reducible rfl)
  simp only [List.setIfInBounds_toArray, List.set_cons_zero, List.set_cons_succ]
  refine tree_take (v := ?_) rfl (by rfl) ?_ ?_
  rotate_left
  · intro _ hSw; (try dsimp only at hSw); obtain ⟨s0, s1⟩ := hSw; go_simp; (try with_reducible rfl)
  simp only [List.setIfInBounds_toArray, List.set_cons_zero, List.set_cons_succ]
  refine tree_take (v := ?_) rfl (by rfl) ?_ ?_
  rotate_left
  · intro _ hSw; (try dsimp only at hSw); obtain ⟨s0, s1⟩ := hSw; go_simp; (try with_reducible rfl)
  simp only [List.setIfInBounds_toArray, List.set_cons_zero, List.set_cons_succ]
  refine tree_take (v := ?_) rfl (by rfl) ?_ ?_
  rotate_left
  · intro _ hSw; (try dsimp only at hSw); obtain ⟨s0, s1⟩ := hSw; go_simp; (try with_reducible rfl)
  simp only [List.setIfInBounds_toArray, List.set_cons_zero, List.set_cons_succ]
  refine tree_take (v := ?_) rfl (by rfl) ?_ ?_
  rotate_left
  · intro _ hSw; (try dsimp only at hSw); obtain ⟨s0, s1⟩ := hSw; go_simp; (try with_reducible rfl)
  simp only [List.setIfInBounds_toArray, List.set_cons_zero, List.set_cons_succ]
  refine tree_take (v := ?_) rfl (by rfl) ?_ ?_
  rotate_left
  · intro _ hSw; (try dsimp only at hSw); obtain ⟨s0, s1⟩ := hSw; go_simp; (try with_reducible rfl)
  simp only [List.setIfInBounds_toArray, List.set_cons_zero, List.set_cons_succ]
  refine tree_call (f := 110) rfl (by rfl) (by first | (go_simp; done) | (go_simp; rfl)) (G.out _ HAd.out) ?_
  rintro e w2 ⟨rfl, rfl⟩
  have hL2 := HBd.out
  have HT2 := Lib.hid (turn_drew (Turn.refl (fun k => k = g) w))
  refine ⟨_, rfl, _, fun _ h => h, ⟨hL2.cell 0, hL2.cell 1⟩, ?_⟩
  simp only [List.setIfInBounds_toArray, List.set_cons_zero, List.set_cons_succ]
  refine tree_take (v := ?_) rfl (by rfl) ?_ ?_
  rotate_left
  · intro _ hSw; (try dsimp only at hSw); go_simp; (try with_reducible rfl)
  simp only [List.setIfInBounds_toArray, List.set_cons_zero, List.set_cons_succ]
  refine tree_take (v := ?_) rfl (by rfl) ?_ ?_
  rotate_left
  · intro _ hSw; (try dsimp only at hSw); go_simp; (try with_reducible rfl)
  simp only [List.setIfInBounds_toArray, List.set_cons_zero, List.set_cons_succ]
  refine tree_take (v := ?_) rfl (by rfl) ?_ ?_
  rotate_left
  · intro _ hSw; (try dsimp only at hSw); go_simp; (try with_reducible rfl)
  simp only [List.setIfInBounds_toArray, List.set_cons_zero, List.set_cons_succ]
  refine tree_take (v := ?_) rfl (by rfl) ?_ ?_
  rotate_left
  · intro _ hSw; (try dsimp only at hSw); go_simp; (try with_reducible rfl)
  simp only [List.setIfInBounds_toArray, List.set_cons_zero, List.set_cons_succ]
  refine tree_take (v := ?_) rfl (by rfl) ?_ ?_
  rotate_left
  · intro _ hSw; (try dsimp only at hSw); go_simp; (try with_reducible rfl)
  simp only [List.setIfInBounds_toArray, List.set_cons_zero, List.set_cons_succ]
  refine tree_take (v := ?_) rfl (by rfl) ?_ ?_
  rotate_left
  · intro _ hSw; (try dsimp only at hSw); go_simp; (try with_reducible rfl)
  simp only [List.setIfInBounds_toArray, List.set_cons_zero, List.set_cons_succ]
  have k8 := HB.out.cell 9; have f8 := HB.out.frozen 9
  have hL3 := hL2.set_ 9 (.int .i64 q)
  refine tree_skip _ (w' := ?_) rfl (by rfl) ?_ ?_ ?_
  rotate_left 1
  · go_simp; (first | (with_reducible rfl) | (constructor <;> with_reducible rfl) | skip)
  · exact ⟨hL3.cell 0, hL3.cell 1⟩
  refine hPE _ _ ?_
  clear hPE PE
  simp only [List.drop_succ_cons, List.drop_zero, List.drop_nil]
  have hL4 : Blk (World.drew (w.setCell ⟨g, 9, none⟩ (.int .i64 q))) g 61 _ := (HB.out.set_ 9 (.int .i64 q)).drewN 1
  have HL4 := Lib.hid hL4
  have HT4 := Lib.hid (turn_drew (turn_set (Turn.refl (fun k => k = g) w) 9 (.int .i64 q)))
  clear hL2 hL3 hL4 k8 f8 y0 y1 HBd HAd HA G HB HT2
  generalize World.drew (w.setCell ⟨g, 9, none⟩ (.int .i64 q)) = w3 at HT4 HL4 ⊢
  have c1 : w3.cell? ⟨g, 1, none⟩ = some (.int .i64 a) := by rw [HL4.out.cell]; rfl
  have c9 : w3.cell? ⟨g, 9, none⟩ = some (.int .i64 q) := by rw [HL4.out.cell]; rfl
  have f1 := HL4.out.frozen 1
  go_wp2_with fail
  refine ⟨rfl, ?_⟩
  rcases her with rfl | rfl
  · cases hq : (q == 0) with
    | true =>
      have hR9 : RES = 9 := by rw [← HRES.out, hq]; rfl
      subst hR9
      go_wp2_with fail
      go_ret
      exact ⟨rfl, HL4.out.set_ 1 (.int .i64 a2), turn_set HT4.out 1 _⟩
    | false =>
      have hR9 : RES = 0 := by rw [← HRES.out, hq]; rfl
      subst hR9
      go_wp2_with fail
      go_ret
      exact ⟨rfl, HL4.out.set_ 1 (.int .i64 a2), turn_set HT4.out 1 _⟩
  · have hR9 : RES = 5 := by rw [← HRES.out]; rfl
    subst hR9
    go_wp2_with fail
    go_ret
    exact ⟨rfl, HL4.out.set_ 1 (.int .i64 a2), turn_set HT4.out 1 _⟩
end Go.Proofs.YtcojnigkgbmbmaaGreatDoor
