/- package bits: Pen. -/
import Derived.Test.YtcojnigkgbmbmaaGreatDoorKPackP
import Derived.Test.YtcojnigkgbmbmaaGreatDoorK11
import Derived.Test.YtcojnigkgbmbmaaGreatDoorK15
import Derived.Test.YtcojnigkgbmbmaaGreatDoorK28
import Derived.Laws.BitsAllLaws
namespace Go.Proofs.YtcojnigkgbmbmaaGreatDoor
open Go Go.RowKit
attribute [local go_sem] Oper.semAt_some
/-- a pen at h that has written L; nothing of w0 has turned. -/
def PenC (w0 : World) (h : Nat) (L : List UInt8) (v : Value) (W : World) : Prop := Cons w0 [(h, 98, #[v, .int .i64 (L.length : Int), .bool true])] [⟨w0.heap.size, 5, 1, v, (packL L).length, (packL L).map byteV⟩] W
structure PenW (w0 : World) (h : Nat) (L : List UInt8) (W : World) : Prop where
  ex : ∃ v, PenC w0 h L v W
theorem PenW.below {w0 : World} {h : Nat} {L : List UInt8} {W W' : World} (hp : PenW w0 h L W) (hw : Below W.heap.size W W') : PenW w0 h L W' := by
  obtain ⟨v, hc⟩ := hp
  exact ⟨v, cons_below hc hw⟩
theorem pen_none (h : Nat) (v : Value) (n : Int) (w : World) (hb : Blk w h 98 #[v, .int .i64 n, .bool true]) : Calls Tryz.prog 66 #[.pointer (some ⟨h, 0, none⟩)] w fun e w' => e = .returned (.bool false) ∧ w = w' := by
  have z2 := hb.cell 2
  (try dsimp only at z2)
  clear hb
  go_enter Tryz.func66, Tryz.ntmps66
  go_wp2_with fail
  go_ret
  exact ⟨rfl, rfl⟩
theorem pen_full (h : Nat) (v : Value) (n k : Int) (w : World) (hb : Blk w h 98 #[v, .int .i64 n, .bool true]) (h0 : 0 ≤ n) (h1 : 0 ≤ k) (h2 : n + k ≤ 16777216) : Calls Tryz.prog 67 #[.pointer (some ⟨h, 0, none⟩), .int .i64 k] w fun e w' => e = .returned (.bool false) ∧ w = w' := by
  have z1 := hb.cell 1
  have hw : IntKind.i64.wrap (n + k) = n + k := by rw [IntKind.wrap_i64]; omega
  have hn : ¬ 16777216 < n + k := by omega
  (try dsimp only at z1)
  clear hb
  go_enter Tryz.func67, Tryz.ntmps67
  go_wp2_with fail
  go_ret
  exact ⟨rfl, rfl⟩
theorem pen_Len (h : Nat) (v : Value) (n : Int) (w : World) (hb : Blk w h 98 #[v, .int .i64 n, .bool true]) : Calls Tryz.prog 31 #[.pointer (some ⟨h, 0, none⟩)] w fun e w' => e = .returned (.int .i64 n) ∧ w = w' := by
  have C := Lib.hid (pen_none h v n w hb)
  have z1 := hb.cell 1
  (try dsimp only at z1)
  clear hb
  go_enter Tryz.func31, Tryz.ntmps31
  go_wp2_with (go_at_call 66; refine C.out.mono ?_; rintro e w2 ⟨rfl, rfl⟩)
  go_ret
  exact ⟨rfl, rfl⟩
theorem bits_NewPen (w : World) : Calls Tryz.prog 27 #[] w fun e w' => e = .returned (.pointer (some ⟨w.heap.size, 0, none⟩)) ∧ PenW w w.heap.size [] w' := by
  go_enter Tryz.func27, Tryz.ntmps27
  go_wp2_with fail
  go_ret
  exact ⟨rfl, ⟨.slice none 0 0, (Below.refl _ w).alloc (Nat.le_refl _) _, CellsAt.cons (Blk.new _ _ _) (cellsAt_nil _), RowsAt.cons (World.ownsRow_nil _ _ _ _) (rowsAt_nil _)⟩⟩
theorem or_add (q b : Nat) (i : Nat) (hb : b < 2 ^ i) (h : q % 2 ^ i = 0) : q ||| b = q + b := by
  have e : q = 2 ^ i * (q / 2 ^ i) := by have := Nat.div_add_mod q (2 ^ i); omega
  rw [e, ← Nat.two_pow_add_eq_or_of_lt hb]
theorem byte_or (L : List UInt8) (x r : Nat) (hx : x < 2) (hr : L.length % 8 = r) (h0 : 0 < r) : byteP L (L.length / 8) ||| (x * 2 ^ (7 - r)) = byteP L (L.length / 8) + x * 2 ^ (7 - r) := by
  have h8 : r < 8 := by omega
  refine or_add _ _ (8 - r) ?_ (by have := byteP_low L (by omega); rwa [hr] at this)
  have e : 2 ^ (8 - r) = 2 * 2 ^ (7 - r) := by rw [show 8 - r = (7 - r) + 1 by omega, Nat.pow_succ, Nat.mul_comm]
  rw [e]
  have : 0 < 2 ^ (7 - r) := Nat.pow_pos (by decide)
  rcases (show x = 0 ∨ x = 1 by omega) with rfl | rfl <;> omega
theorem rowB (M : List UInt8) : M.map byteV = rowC (fun b => [byteV b]) M := by
  induction M with
  | nil => rfl
  | cons b M ih => rw [List.map_cons, ih]; rfl
theorem pen_far {w0 W : World} {g h n c k : Nat} {M : List UInt8} (hc : Cons w0 [(h, 98, #[.slice (some ⟨g, 0, none⟩) n c, .int .i64 (k : Int), .bool true])] [⟨w0.heap.size, 5, 1, .slice (some ⟨g, 0, none⟩) n c, n, M.map byteV⟩] W) : h ≠ g ∧ w0.heap.size ≤ g := by
  have hr := hc.2.2.head
  dsimp only at hr
  rcases hr.2 with ⟨h', _⟩ | ⟨g', cap', cur, h', hb, hg, _⟩
  · simp at h'
  · simp only [Value.slice.injEq, Option.some.injEq, Addr.mk.injEq, and_true, true_and] at h'
    obtain ⟨rfl, rfl⟩ := h'
    refine ⟨?_, hb⟩
    have h1 : Blk W g 5 cur := hg
    exact blk_ne hc.2.1.head h1 (by simp)
theorem pen_set {w0 W : World} {g h n c k : Nat} {M : List UInt8} (hc : Cons w0 [(h, 98, #[.slice (some ⟨g, 0, none⟩) n c, .int .i64 (k : Int), .bool true])] [⟨w0.heap.size, 5, 1, .slice (some ⟨g, 0, none⟩) n c, n, M.map byteV⟩] W) (hh : w0.heap.size ≤ h) (i : Nat) (b : UInt8) :
    Cons w0 [(h, 98, #[.slice (some ⟨g, 0, none⟩) n c, .int .i64 ((k : Int) + 1), .bool true])] [⟨w0.heap.size, 5, 1, .slice (some ⟨g, 0, none⟩) n c, n, (M.set i b).map byteV⟩] ((W.setCell ⟨g, i, none⟩ (byteV b)).setCell ⟨h, 1, none⟩ (.int .i64 ((k : Int) + 1))) := by
  obtain ⟨hne, hb⟩ := pen_far hc
  have h1 : Cons w0 [(h, 98, #[.slice (some ⟨g, 0, none⟩) n c, .int .i64 (k : Int), .bool true])] [⟨w0.heap.size, 5, 1, .slice (some ⟨g, 0, none⟩) n c, n, (M.set i b).map byteV⟩] (W.setCell ⟨g, i, none⟩ (byteV b)) := by
    refine ⟨hc.1.setCell (p := ⟨g, i, none⟩) hb _, hc.2.1.far (p := ⟨g, i, none⟩) (fun q hq => by rw [List.mem_singleton] at hq; subst hq; exact hne) _, RowsAt.cons ?_ (rowsAt_nil _)⟩
    have h2 := (hc.2.2.head.stored i (byteV b)).1
    rw [List.map_set]
    exact h2
  have h2 := cons_store h1 hh 1 (.int .i64 ((k : Int) + 1)) (h, 98, #[.slice (some ⟨g, 0, none⟩) n c, .int .i64 (k : Int), .bool true]) (by simp) rfl (by simp)
  simpa [setL] using h2
set_option maxRecDepth 100000 in
set_option maxHeartbeats 16000000 in
theorem pen_write_or (w0 : World) (h g n c : Nat) (M : List UInt8) (k i q y r x : Nat) (hk : k < 16777216) (hx : x < 2) (hr : k % 8 = r) (hi : k / 8 = i) (hin : i < n) (hM : n = M.length) (hq : (M.getD i 0).toNat = q) (hy : y = x * 2 ^ (7 - r)) (hh : w0.heap.size ≤ h) (W : World)
    (hc : Cons w0 [(h, 98, #[.slice (some ⟨g, 0, none⟩) n c, .int .i64 (k : Int), .bool true])] [⟨w0.heap.size, 5, 1, .slice (some ⟨g, 0, none⟩) n c, n, M.map byteV⟩] W) (hr0 : 0 < r) :
    Calls Tryz.prog 68 #[.pointer (some ⟨h, 0, none⟩), .int .i64 (x : Int)] W fun e w' => (∃ u, e = .returned u) ∧ Cons w0 [(h, 98, #[.slice (some ⟨g, 0, none⟩) n c, .int .i64 ((k : Int) + 1), .bool true])] [⟨w0.heap.size, 5, 1, .slice (some ⟨g, 0, none⟩) n c, n, (M.set i (UInt8.ofNat (q ||| y))).map byteV⟩] w' ∧ ∀ B, KeepsFrom B W w' := by
  have hb := hc.2.1.head
  have hfar := pen_far hc
  have hcell : W.cell? ⟨g, i, none⟩ = some (.int .u8 (q : Int)) := by
    have h1 := hc.2.2.head.cellAt i (by show i < n * 1; omega)
    (try dsimp only at h1)
    rw [h1, List.getElem?_map, List.getElem?_eq_getElem (by omega), Option.map_some]
    have e : M.getD i 0 = M[i]'(by omega) := by simp [List.getD, List.getElem?_eq_getElem (show i < M.length by omega)]
    rw [← hq, e]; rfl
  have hfz := hc.2.2.head.frozenAt i
  (try dsimp only at hfz)
  have hq8 : q < 256 := by rw [← hq]; exact UInt8.toNat_lt _
  have hr8 : r < 8 := by omega
  have hy8 : y < 256 := by
    rw [hy]
    have : r = 0 ∨ r = 1 ∨ r = 2 ∨ r = 3 ∨ r = 4 ∨ r = 5 ∨ r = 6 ∨ r = 7 := by omega
    rcases this with rfl | rfl | rfl | rfl | rfl | rfl | rfl | rfl <;> omega
  have hor : q ||| y < 256 := Nat.or_lt_two_pow (n := 8) hq8 hy8
  have HOR := Lib.hid (u8_or_nat q y hq8 hy8)
  have hval : byteV (UInt8.ofNat (q ||| y)) = .int .u8 ((q ||| y : Nat) : Int) := by unfold byteV; rw [ofNat_toNat8 _ hor]
  have HS := Lib.hid (pen_set hc hh i (UInt8.ofNat (q ||| y)))
  rw [hval] at HS
  obtain ⟨z, hz⟩ : ∃ z, q ||| y = z := ⟨_, rfl⟩
  rw [hz] at HS HOR hor ⊢
  have hCD : Hid (CellsAt [(h, 98, #[.slice (some ⟨g, 0, none⟩) n c, .int .i64 (k : Int), .bool true])] W.drew ∧ W.drew.cell? ⟨g, i, none⟩ = some (.int .u8 (q : Int))) := Lib.hid ⟨hc.2.1.drew, hcell⟩
  have hrem : ((k : Int) % 8) = (r : Int) := by omega
  have hquo : ((k : Int) / 8) = (i : Int) := by omega
  have hrt : (k : Int).tmod 8 = (r : Int) := by rw [Int.tmod_eq_emod_of_nonneg (by omega)]; exact hrem
  have hz0 := hb.cell 0; have hz1 := hb.cell 1; have hf0 := hb.frozen 0; have hf1 := hb.frozen 1
  have hb2 := hb.far (p := ⟨g, i, none⟩) hfar.1 (.int .u8 (z : Int))
  have hw1 := hb2.cell 1; have hw2 := hb2.frozen 1
  have hin2 : ((i : Int) < (n : Int)) := by omega
  have hin0 : ¬ ((i : Int) < 0) := by omega
  have hwi : IntKind.i64.wrap (i : Int) = (i : Int) := by rw [IntKind.wrap_i64]; omega
  have hin3 : (i : Int).toNat = i := by omega
  have hwk : IntKind.i64.wrap ((k : Int) + 1) = (k : Int) + 1 := by rw [IntKind.wrap_i64]; omega
  (try dsimp only at hz0 hz1 hf0 hf1 hw1 hw2)
  clear hb hb2 hval hfar hz hq hi hin hM hor hq8 hy8 hc
  have hxs : x = 0 ∨ x = 1 := by omega
  have hrs : r = 1 ∨ r = 2 ∨ r = 3 ∨ r = 4 ∨ r = 5 ∨ r = 6 ∨ r = 7 := by omega
  have hsh : ∀ W : World, Sem.run Tryz.prog (Op.shift .shl .u8 (IntKind.u8.wrap (x : Int)) .i64 (IntKind.i64.wrap (7 - (r : Int)))) W = .ok (.int .u8 (y : Int)) W := fun W => by
    subst hy
    rcases hxs with rfl | rfl <;> rcases hrs with rfl | rfl | rfl | rfl | rfl | rfl | rfl <;> rfl
  clear hr hr0 hr8 hx hk
  rcases hxs with rfl | rfl <;> rcases hrs with rfl | rfl | rfl | rfl | rfl | rfl | rfl
  all_goals
    simp only [Nat.zero_mul, Nat.one_mul, Nat.reduceSub, Nat.reducePow] at hy
    subst hy
    have hor2 := HOR.out
    (try simp only [Int.natCast_zero, Int.cast_ofNat_Int, Int.reduceSub] at hor2 hrem hrt hsh ⊢)
    go_enter Tryz.func68, Tryz.ntmps68
    go_wp2_with fail
    refine wp_region_treeN (fun w' => CellsAt [(h, 98, #[.slice (some ⟨g, 0, none⟩) n c, .int .i64 (k : Int), .bool true])] w' ∧ w'.cell? ⟨g, i, none⟩ = some (.int .u8 (q : Int))) 20 (.take 0 (.take 1 (.take 2 (.take 3 (.take 4 (.take 5 (.take 6 (.take 7 (.take 8 (.take 9 (.take 10 (.take 11 (.take 12 (.take 13 (.take 14 (.take 15 (.take 16 (.take 17 (.take 18 (.take 19 (.done))))))))))))))))))))) (by kernel_rfl) (by kernel_rfl) (by simp only [Pln.out, Array.getD_eq_getD_getElem?, List.getElem?_toArray, List.getElem?_cons_zero, List.getElem?_cons_succ, Option.getD_some]; rfl) (by simp only [List.map_cons, List.map_nil]; rfl) (hCD.out) (fun PE hPE => ?_)
    refine tree_take (v := ?_) rfl (by rfl) ?_ ?_
    rotate_left
    · intro _ hSw; (try dsimp only at hSw); have z0 := hSw.1.head.cell 0; have z1 := hSw.1.head.cell 1; have z2 := hSw.2; (try dsimp only at z0 z1 z2); go_simp; (try with_reducible rfl)
    simp only [List.setIfInBounds_toArray, List.set_cons_zero, List.set_cons_succ]
    refine tree_take (v := ?_) rfl (by rfl) ?_ ?_
    rotate_left
    · intro _ hSw; (try dsimp only at hSw); have z0 := hSw.1.head.cell 0; have z1 := hSw.1.head.cell 1; have z2 := hSw.2; (try dsimp only at z0 z1 z2); go_simp; (try with_reducible rfl)
    simp only [List.setIfInBounds_toArray, List.set_cons_zero, List.set_cons_succ]
    refine tree_take (v := ?_) rfl (by rfl) ?_ ?_
    rotate_left
    · intro _ hSw; (try dsimp only at hSw); have z0 := hSw.1.head.cell 0; have z1 := hSw.1.head.cell 1; have z2 := hSw.2; (try dsimp only at z0 z1 z2); go_simp; (try with_reducible rfl)
    simp only [List.setIfInBounds_toArray, List.set_cons_zero, List.set_cons_succ]
    refine tree_take (v := ?_) rfl (by rfl) ?_ ?_
    rotate_left
    · intro _ hSw; (try dsimp only at hSw); have z0 := hSw.1.head.cell 0; have z1 := hSw.1.head.cell 1; have z2 := hSw.2; (try dsimp only at z0 z1 z2); go_simp; (try with_reducible rfl)
    simp only [List.setIfInBounds_toArray, List.set_cons_zero, List.set_cons_succ]
    refine tree_take (v := ?_) rfl (by rfl) ?_ ?_
    rotate_left
    · intro _ hSw; (try dsimp only at hSw); have z0 := hSw.1.head.cell 0; have z1 := hSw.1.head.cell 1; have z2 := hSw.2; (try dsimp only at z0 z1 z2); go_simp; (try with_reducible rfl)
    simp only [List.setIfInBounds_toArray, List.set_cons_zero, List.set_cons_succ]
    refine tree_take (v := ?_) rfl (by rfl) ?_ ?_
    rotate_left
    · intro _ hSw; (try dsimp only at hSw); have z0 := hSw.1.head.cell 0; have z1 := hSw.1.head.cell 1; have z2 := hSw.2; (try dsimp only at z0 z1 z2); go_simp; (try with_reducible rfl)
    simp only [List.setIfInBounds_toArray, List.set_cons_zero, List.set_cons_succ]
    refine tree_take (v := ?_) rfl (by rfl) ?_ ?_
    rotate_left
    · intro _ hSw; (try dsimp only at hSw); have z0 := hSw.1.head.cell 0; have z1 := hSw.1.head.cell 1; have z2 := hSw.2; (try dsimp only at z0 z1 z2); go_simp; (try with_reducible rfl)
    simp only [List.setIfInBounds_toArray, List.set_cons_zero, List.set_cons_succ]
    refine tree_take (v := ?_) rfl (by rfl) ?_ ?_
    rotate_left
    · intro _ hSw; (try dsimp only at hSw); have z0 := hSw.1.head.cell 0; have z1 := hSw.1.head.cell 1; have z2 := hSw.2; (try dsimp only at z0 z1 z2); go_simp; (try with_reducible rfl)
    simp only [List.setIfInBounds_toArray, List.set_cons_zero, List.set_cons_succ]
    refine tree_take (v := ?_) rfl (by rfl) ?_ ?_
    rotate_left
    · intro _ hSw; (try dsimp only at hSw); have z0 := hSw.1.head.cell 0; have z1 := hSw.1.head.cell 1; have z2 := hSw.2; (try dsimp only at z0 z1 z2); go_simp; (try with_reducible rfl)
    simp only [List.setIfInBounds_toArray, List.set_cons_zero, List.set_cons_succ]
    refine tree_take (v := ?_) rfl (by rfl) ?_ ?_
    rotate_left
    · intro _ hSw; (try dsimp only at hSw); have z0 := hSw.1.head.cell 0; have z1 := hSw.1.head.cell 1; have z2 := hSw.2; (try dsimp only at z0 z1 z2); go_simp; (try with_reducible rfl)
    simp only [List.setIfInBounds_toArray, List.set_cons_zero, List.set_cons_succ]
    refine tree_take (v := ?_) rfl (by rfl) ?_ ?_
    rotate_left
    · intro _ hSw; (try dsimp only at hSw); have z0 := hSw.1.head.cell 0; have z1 := hSw.1.head.cell 1; have z2 := hSw.2; (try dsimp only at z0 z1 z2); go_simp; (try with_reducible rfl)
    simp only [List.setIfInBounds_toArray, List.set_cons_zero, List.set_cons_succ]
    refine tree_take (v := ?_) rfl (by rfl) ?_ ?_
    rotate_left
    · intro _ hSw; (try dsimp only at hSw); have z0 := hSw.1.head.cell 0; have z1 := hSw.1.head.cell 1; have z2 := hSw.2; (try dsimp only at z0 z1 z2); go_simp; (try with_reducible rfl)
    simp only [List.setIfInBounds_toArray, List.set_cons_zero, List.set_cons_succ]
    refine tree_take (v := ?_) rfl (by rfl) ?_ ?_
    rotate_left
    · intro _ hSw; (try dsimp only at hSw); have z0 := hSw.1.head.cell 0; have z1 := hSw.1.head.cell 1; have z2 := hSw.2; (try dsimp only at z0 z1 z2); go_simp; (try with_reducible rfl)
    simp only [List.setIfInBounds_toArray, List.set_cons_zero, List.set_cons_succ]
    refine tree_take (v := ?_) rfl (by rfl) ?_ ?_
    rotate_left
    · intro _ hSw; (try dsimp only at hSw); have z0 := hSw.1.head.cell 0; have z1 := hSw.1.head.cell 1; have z2 := hSw.2; (try dsimp only at z0 z1 z2); go_simp; (try with_reducible rfl)
    simp only [List.setIfInBounds_toArray, List.set_cons_zero, List.set_cons_succ]
    refine tree_take (v := ?_) rfl (by rfl) ?_ ?_
    rotate_left
    · intro _ hSw; (try dsimp only at hSw); have z0 := hSw.1.head.cell 0; have z1 := hSw.1.head.cell 1; have z2 := hSw.2; (try dsimp only at z0 z1 z2); go_simp; (try with_reducible rfl)
    simp only [List.setIfInBounds_toArray, List.set_cons_zero, List.set_cons_succ]
    refine tree_take (v := ?_) rfl (by rfl) ?_ ?_
    rotate_left
    · intro _ hSw; (try dsimp only at hSw); have z0 := hSw.1.head.cell 0; have z1 := hSw.1.head.cell 1; have z2 := hSw.2; (try dsimp only at z0 z1 z2); go_simp; (try with_reducible rfl)
    simp only [List.setIfInBounds_toArray, List.set_cons_zero, List.set_cons_succ]
    refine tree_take (v := ?_) rfl (by rfl) ?_ ?_
    rotate_left
    · intro _ hSw; (try dsimp only at hSw); have z0 := hSw.1.head.cell 0; have z1 := hSw.1.head.cell 1; have z2 := hSw.2; (try dsimp only at z0 z1 z2); go_simp; (try with_reducible rfl)
    simp only [List.setIfInBounds_toArray, List.set_cons_zero, List.set_cons_succ]
    refine tree_take (v := ?_) rfl (by rfl) ?_ ?_
    rotate_left
    · intro _ hSw; (try dsimp only at hSw); have z0 := hSw.1.head.cell 0; have z1 := hSw.1.head.cell 1; have z2 := hSw.2; (try dsimp only at z0 z1 z2); go_simp; (try with_reducible rfl)
    simp only [List.setIfInBounds_toArray, List.set_cons_zero, List.set_cons_succ]
    refine tree_take (v := ?_) rfl (by rfl) ?_ ?_
    rotate_left
    · intro _ hSw; (try dsimp only at hSw); have z0 := hSw.1.head.cell 0; have z1 := hSw.1.head.cell 1; have z2 := hSw.2; (try dsimp only at z0 z1 z2); go_simp; (try with_reducible rfl)
    simp only [List.setIfInBounds_toArray, List.set_cons_zero, List.set_cons_succ]
    refine tree_take (v := ?_) rfl (by rfl) ?_ ?_
    rotate_left
    · intro _ hSw; (try dsimp only at hSw); have z0 := hSw.1.head.cell 0; have z1 := hSw.1.head.cell 1; have z2 := hSw.2; (try dsimp only at z0 z1 z2); go_simp; (try with_reducible rfl)
    simp only [List.setIfInBounds_toArray, List.set_cons_zero, List.set_cons_succ]
    refine hPE _ _ ?_
    clear hPE PE
    simp only [List.drop_succ_cons, List.drop_zero, List.drop_nil]
    go_wp2_with fail
    refine ⟨rfl, ?_⟩
    go_wp2_with fail
    refine bodyPost_end (results_none rfl _ _ _) rfl ⟨⟨_, rfl⟩, ?_⟩
    exact ⟨cons_drew HS.out, fun B => kf_drew (kf_set (kf_set (KeepsFrom.refl B W) _ _) _ _)⟩
end Go.Proofs.YtcojnigkgbmbmaaGreatDoor
