/- package bits: Pen.write. -/
import Derived.Test.YtcojnigkgbmbmaaGreatDoorKPen
namespace Go.Proofs.YtcojnigkgbmbmaaGreatDoor
open Go Go.RowKit
attribute [local go_sem] Oper.semAt_some
set_option maxRecDepth 100000 in
set_option maxHeartbeats 8000000 in
theorem pen_write_new (w0 : World) (h : Nat) (v : Value) (M : List UInt8) (k x n : Nat) (hk : k < 16777216) (hx : x < 2) (hr : k % 8 = 0) (hM : M.length = n) (hi : k / 8 = n) (hh : w0.heap.size ≤ h) (W : World)
    (hc : Cons w0 [(h, 98, #[v, .int .i64 (k : Int), .bool true])] [⟨w0.heap.size, 5, 1, v, n, M.map byteV⟩] W) :
    Calls Tryz.prog 68 #[.pointer (some ⟨h, 0, none⟩), .int .i64 (x : Int)] W fun e w' => (∃ u, e = .returned u) ∧ ∃ v', Cons w0 [(h, 98, #[v', .int .i64 ((k : Int) + 1), .bool true])] [⟨w0.heap.size, 5, 1, v', n + 1, (M ++ [UInt8.ofNat (x * 128)]).map byteV⟩] w' ∧ ∀ B, KeepsFrom B W w' := by
  obtain ⟨A, c, hv⟩ := own_slN hc.2.2.head
  dsimp only at hv
  subst hv
  have hb := hc.2.1.head
  have HC := Lib.hid hc
  have hz0 := hb.cell 0; have hz1 := hb.cell 1; have hf0 := hb.frozen 0; have hf1 := hb.frozen 1
  (try dsimp only at hz0 hz1 hf0 hf1)
  have hrem : ((k : Int) % 8) = 0 := by omega
  have hquo : ((k : Int) / 8) = (n : Int) := by omega
  have hrt : (k : Int).tmod 8 = 0 := by rw [Int.tmod_eq_emod_of_nonneg (by omega)]; exact hrem
  have hwi : IntKind.i64.wrap (n : Int) = (n : Int) := by rw [IntKind.wrap_i64]; omega
  have hin3 : (n : Int).toNat = n := by omega
  have hwk : IntKind.i64.wrap ((k : Int) + 1) = (k : Int) + 1 := by rw [IntKind.wrap_i64]; omega
  have hn8 : n < 16777216 := by omega
  have HN8 := Lib.hid hn8; have HMM := Lib.hid hM
  clear hb hc hn8 hM hi hr hk
  go_enter Tryz.func68, Tryz.ntmps68
  go_wp2_with (at_builtin; refine wpList_app etByte rfl rfl rfl ((cons_alloc HC.out (.cells #[.int .u8 0] 5)).2.2.head) rfl (m := 1) (news := [.int .u8 0]) rfl (Blk.sl (Blk.new W 5 _) 0) ?c2 ?c4 ?c5 ?_)
  case c2 => intro u hu; simp at hu; subst hu; rfl
  case c4 => have := HN8.out; omega
  case c5 => have := HC.out.1.size; simp; omega
  intro v5 W5 h2 h3 _
  have hc5 := cons_app (cons_alloc HC.out (.cells #[.int .u8 0] 5)) h3 h2 (Nat.le_refl _) (by simp) (by simp)
  have HKF := Lib.hid (fun B => kf_grown (kf_alloc (KeepsFrom.refl B W) (.cells #[.int .u8 0] 5)) h3 (own_cells (cons_alloc HC.out (.cells #[.int .u8 0] 5)).2.2.head))
  obtain ⟨g5, c5, hv5, hg5, hl5⟩ := row_shape hc5.2.2.head (by show 0 < n + 1; omega)
  dsimp only at hv5
  subst hv5
  have HC5 := Lib.hid hc5
  have hb5 := hc5.2.1.head
  have s0 := hb5.cell 0; have s1 := hb5.cell 1; have s2 := hb5.frozen 0; have s3 := hb5.frozen 1
  (try dsimp only at s0 s1 s2 s3)
  clear hc5 hb5 hz0 hz1 hf0 hf1 h2 h3
  go_wp2_with fail
  have hC6 : Cons w0 [(h, 98, #[.slice (some ⟨g5, 0, none⟩) (n + 1) c5, .int .i64 (k : Int), .bool true])] [⟨w0.heap.size, 5, 1, .slice (some ⟨g5, 0, none⟩) (n + 1) c5, n + 1, (M ++ [0]).map byteV⟩] (W5.setCell ⟨h, 0, none⟩ (.slice (some ⟨g5, 0, none⟩) (n + 1) c5)) := by
    have h2 := cons_store HC5.out hh 0 (.slice (some ⟨g5, 0, none⟩) (n + 1) c5) (h, 98, #[.slice A n c, .int .i64 (k : Int), .bool true]) (by simp) rfl (by simp)
    have e0 : [(0 : UInt8)].map byteV = [Value.int .u8 0] := rfl
    rw [List.map_append, e0]
    simpa [setL] using h2
  have HC6 := Lib.hid hC6
  have HK6 := Lib.hid (fun B => kf_set (HKF.out B) ⟨h, 0, none⟩ (.slice (some ⟨g5, 0, none⟩) (n + 1) c5))
  clear HKF
  have hb6 := hC6.2.1.head
  have hfar := pen_far hC6
  have hcell : (W5.setCell ⟨h, 0, none⟩ (.slice (some ⟨g5, 0, none⟩) (n + 1) c5)).cell? ⟨g5, n, none⟩ = some (.int .u8 0) := by
    have h1 := hC6.2.2.head.cellAt n (by show n < (n + 1) * 1; omega)
    (try dsimp only at h1)
    rw [h1, List.map_append, List.getElem?_append_right (by rw [List.length_map, HMM.out]; exact Nat.le_refl _), List.length_map, HMM.out, Nat.sub_self]
    rfl
  have hfz := hC6.2.2.head.frozenAt n
  (try dsimp only at hfz)
  have hCD : Hid (CellsAt [(h, 98, #[.slice (some ⟨g5, 0, none⟩) (n + 1) c5, .int .i64 (k : Int), .bool true])] (W5.setCell ⟨h, 0, none⟩ (.slice (some ⟨g5, 0, none⟩) (n + 1) c5)).drew ∧ (W5.setCell ⟨h, 0, none⟩ (.slice (some ⟨g5, 0, none⟩) (n + 1) c5)).drew.cell? ⟨g5, n, none⟩ = some (.int .u8 0)) := Lib.hid ⟨hC6.2.1.drew, hcell⟩
  have hset := pen_set hC6 hh n (UInt8.ofNat (x * 128))
  have hval : byteV (UInt8.ofNat (x * 128)) = .int .u8 ((x * 128 : Nat) : Int) := by unfold byteV; rw [ofNat_toNat8 _ (by omega)]
  have hlist : (M ++ [0]).set n (UInt8.ofNat (x * 128)) = M ++ [UInt8.ofNat (x * 128)] := by
    rw [List.set_append_right _ _ (by rw [HMM.out]; exact Nat.le_refl _), HMM.out, Nat.sub_self]
    rfl
  rw [hval, hlist] at hset
  have HS := Lib.hid hset
  have hz0 := hb6.cell 0; have hz1 := hb6.cell 1; have hf1 := hb6.frozen 1
  have hb7 := hb6.far (p := ⟨g5, n, none⟩) hfar.1 (.int .u8 ((x * 128 : Nat) : Int))
  have hw1 := hb7.cell 1; have hw2 := hb7.frozen 1
  (try dsimp only at hz0 hz1 hf1 hw1 hw2)
  have hin2 : ((n : Int) < (n : Int) + 1) := by omega
  have hxs : x = 0 ∨ x = 1 := by omega
  have hor0 : bits .or .u8 0 0 = 0 := by decide
  have hor1 : bits .or .u8 0 128 = 128 := by decide
  have hsh0 : ∀ W : World, Sem.run Tryz.prog (Op.shift .shl .u8 (IntKind.u8.wrap 0) .i64 (IntKind.i64.wrap 7)) W = .ok (.int .u8 0) W := fun W => rfl
  have hsh1 : ∀ W : World, Sem.run Tryz.prog (Op.shift .shl .u8 (IntKind.u8.wrap 1) .i64 (IntKind.i64.wrap 7)) W = .ok (.int .u8 128) W := fun W => rfl
  clear hset hval hlist hb6 hb7 hfar hC6 hx HC HN8 HMM s0 s1 s2 s3
  generalize W5.setCell ⟨h, 0, none⟩ (.slice (some ⟨g5, 0, none⟩) (n + 1) c5) = W6 at *
  rcases hxs with rfl | rfl
  all_goals
    (try simp only [Int.natCast_zero, Int.cast_ofNat_Int, Nat.zero_mul, Nat.one_mul] at hw1 hw2 HS ⊢)
    refine wp_region_treeN (fun w' => CellsAt [(h, 98, #[.slice (some ⟨g5, 0, none⟩) (n + 1) c5, .int .i64 (k : Int), .bool true])] w' ∧ w'.cell? ⟨g5, n, none⟩ = some (.int .u8 0)) 20 (.take 0 (.take 1 (.take 2 (.take 3 (.take 4 (.take 5 (.take 6 (.take 7 (.take 8 (.take 9 (.take 10 (.take 11 (.take 12 (.take 13 (.take 14 (.take 15 (.take 16 (.take 17 (.take 18 (.take 19 (.done))))))))))))))))))))) (by kernel_rfl) (by kernel_rfl) (by simp only [Pln.out, Array.getD_eq_getD_getElem?, List.getElem?_toArray, List.getElem?_cons_zero, List.getElem?_cons_succ, Option.getD_some]; rfl) (by simp only [List.map_cons, List.map_nil]; rfl) (hCD.out) (fun PE hPE => ?_)
    refine tree_take (v := ?_) rfl (by rfl) ?_ ?_
    rotate_left
    · intro _ hSw; (try dsimp only at hSw); have z0 := hSw.1.head.cell 0; have z1 := hSw.1.head.cell 1; have z2 := hSw.2; (try dsimp only at z0 z1 z2); go_simp; (try with_reducible rfl)
    simp only [List.setIfInBounds_toArray, List.set_cons_zero, List.set_cons_succ]
    refine tree_take (v := ?_) rfl (by rfl) ?_ ?_
    rotate_left
    · intro _ hSw; (try dsimp only at hSw); have z0 := hSw.1.head.cell 0; have z1 := hSw.1.head.cell 1; have z2 := hSw.2; (try dsimp only at z0 z1 z2); go_simp; (try with_reducible rfl)
    simp only [List.setIfInBounds_toArray, List.set_cons_zero, List.set_cons_succ]
    refine tree_take (v := ?_) rfl (by rfl) ?_ ?_
    rotate_left
    · intro _ hSw; (try dsimp only at hSw); have z0 := hSw.1.head.cell 0; have z1 := hSw.1.head.cell 1; have z2 := hSw.2; (try dsimp only at z0 z1 z2); go_simp; (try with_reducible rfl)
    simp only [List.setIfInBounds_toArray, List.set_cons_zero, List.set_cons_succ]
    refine tree_take (v := ?_) rfl (by rfl) ?_ ?_
    rotate_left
    · intro _ hSw; (try dsimp only at hSw); have z0 := hSw.1.head.cell 0; have z1 := hSw.1.head.cell 1; have z2 := hSw.2; (try dsimp only at z0 z1 z2); go_simp; (try with_reducible rfl)
    simp only [List.setIfInBounds_toArray, List.set_cons_zero, List.set_cons_succ]
    refine tree_take (v := ?_) rfl (by rfl) ?_ ?_
    rotate_left
    · intro _ hSw; (try dsimp only at hSw); have z0 := hSw.1.head.cell 0; have z1 := hSw.1.head.cell 1; have z2 := hSw.2; (try dsimp only at z0 z1 z2); go_simp; (try with_reducible rfl)
    simp only [List.setIfInBounds_toArray, List.set_cons_zero, List.set_cons_succ]
    refine tree_take (v := ?_) rfl (by rfl) ?_ ?_
    rotate_left
    · intro _ hSw; (try dsimp only at hSw); have z0 := hSw.1.head.cell 0; have z1 := hSw.1.head.cell 1; have z2 := hSw.2; (try dsimp only at z0 z1 z2); go_simp; (try with_reducible rfl)
    simp only [List.setIfInBounds_toArray, List.set_cons_zero, List.set_cons_succ]
    refine tree_take (v := ?_) rfl (by rfl) ?_ ?_
    rotate_left
    · intro _ hSw; (try dsimp only at hSw); have z0 := hSw.1.head.cell 0; have z1 := hSw.1.head.cell 1; have z2 := hSw.2; (try dsimp only at z0 z1 z2); go_simp; (try with_reducible rfl)
    simp only [List.setIfInBounds_toArray, List.set_cons_zero, List.set_cons_succ]
    refine tree_take (v := ?_) rfl (by rfl) ?_ ?_
    rotate_left
    · intro _ hSw; (try dsimp only at hSw); have z0 := hSw.1.head.cell 0; have z1 := hSw.1.head.cell 1; have z2 := hSw.2; (try dsimp only at z0 z1 z2); go_simp; (try with_reducible rfl)
    simp only [List.setIfInBounds_toArray, List.set_cons_zero, List.set_cons_succ]
    refine tree_take (v := ?_) rfl (by rfl) ?_ ?_
    rotate_left
    · intro _ hSw; (try dsimp only at hSw); have z0 := hSw.1.head.cell 0; have z1 := hSw.1.head.cell 1; have z2 := hSw.2; (try dsimp only at z0 z1 z2); go_simp; (try with_reducible rfl)
    simp only [List.setIfInBounds_toArray, List.set_cons_zero, List.set_cons_succ]
    refine tree_take (v := ?_) rfl (by rfl) ?_ ?_
    rotate_left
    · intro _ hSw; (try dsimp only at hSw); have z0 := hSw.1.head.cell 0; have z1 := hSw.1.head.cell 1; have z2 := hSw.2; (try dsimp only at z0 z1 z2); go_simp; (try with_reducible rfl)
    simp only [List.setIfInBounds_toArray, List.set_cons_zero, List.set_cons_succ]
    refine tree_take (v := ?_) rfl (by rfl) ?_ ?_
    rotate_left
    · intro _ hSw; (try dsimp only at hSw); have z0 := hSw.1.head.cell 0; have z1 := hSw.1.head.cell 1; have z2 := hSw.2; (try dsimp only at z0 z1 z2); go_simp; (try with_reducible rfl)
    simp only [List.setIfInBounds_toArray, List.set_cons_zero, List.set_cons_succ]
    refine tree_take (v := ?_) rfl (by rfl) ?_ ?_
    rotate_left
    · intro _ hSw; (try dsimp only at hSw); have z0 := hSw.1.head.cell 0; have z1 := hSw.1.head.cell 1; have z2 := hSw.2; (try dsimp only at z0 z1 z2); go_simp; (try with_reducible rfl)
    simp only [List.setIfInBounds_toArray, List.set_cons_zero, List.set_cons_succ]
    refine tree_take (v := ?_) rfl (by rfl) ?_ ?_
    rotate_left
    · intro _ hSw; (try dsimp only at hSw); have z0 := hSw.1.head.cell 0; have z1 := hSw.1.head.cell 1; have z2 := hSw.2; (try dsimp only at z0 z1 z2); go_simp; (try with_reducible rfl)
    simp only [List.setIfInBounds_toArray, List.set_cons_zero, List.set_cons_succ]
    refine tree_take (v := ?_) rfl (by rfl) ?_ ?_
    rotate_left
    · intro _ hSw; (try dsimp only at hSw); have z0 := hSw.1.head.cell 0; have z1 := hSw.1.head.cell 1; have z2 := hSw.2; (try dsimp only at z0 z1 z2); go_simp; (try with_reducible rfl)
    simp only [List.setIfInBounds_toArray, List.set_cons_zero, List.set_cons_succ]
    refine tree_take (v := ?_) rfl (by rfl) ?_ ?_
    rotate_left
    · intro _ hSw; (try dsimp only at hSw); have z0 := hSw.1.head.cell 0; have z1 := hSw.1.head.cell 1; have z2 := hSw.2; (try dsimp only at z0 z1 z2); go_simp; (try with_reducible rfl)
    simp only [List.setIfInBounds_toArray, List.set_cons_zero, List.set_cons_succ]
    refine tree_take (v := ?_) rfl (by rfl) ?_ ?_
    rotate_left
    · intro _ hSw; (try dsimp only at hSw); have z0 := hSw.1.head.cell 0; have z1 := hSw.1.head.cell 1; have z2 := hSw.2; (try dsimp only at z0 z1 z2); go_simp; (try with_reducible rfl)
    simp only [List.setIfInBounds_toArray, List.set_cons_zero, List.set_cons_succ]
    refine tree_take (v := ?_) rfl (by rfl) ?_ ?_
    rotate_left
    · intro _ hSw; (try dsimp only at hSw); have z0 := hSw.1.head.cell 0; have z1 := hSw.1.head.cell 1; have z2 := hSw.2; (try dsimp only at z0 z1 z2); go_simp; (try with_reducible rfl)
    simp only [List.setIfInBounds_toArray, List.set_cons_zero, List.set_cons_succ]
    refine tree_take (v := ?_) rfl (by rfl) ?_ ?_
    rotate_left
    · intro _ hSw; (try dsimp only at hSw); have z0 := hSw.1.head.cell 0; have z1 := hSw.1.head.cell 1; have z2 := hSw.2; (try dsimp only at z0 z1 z2); go_simp; (try with_reducible rfl)
    simp only [List.setIfInBounds_toArray, List.set_cons_zero, List.set_cons_succ]
    refine tree_take (v := ?_) rfl (by rfl) ?_ ?_
    rotate_left
    · intro _ hSw; (try dsimp only at hSw); have z0 := hSw.1.head.cell 0; have z1 := hSw.1.head.cell 1; have z2 := hSw.2; (try dsimp only at z0 z1 z2); go_simp; (try with_reducible rfl)
    simp only [List.setIfInBounds_toArray, List.set_cons_zero, List.set_cons_succ]
    refine tree_take (v := ?_) rfl (by rfl) ?_ ?_
    rotate_left
    · intro _ hSw; (try dsimp only at hSw); have z0 := hSw.1.head.cell 0; have z1 := hSw.1.head.cell 1; have z2 := hSw.2; (try dsimp only at z0 z1 z2); go_simp; (try with_reducible rfl)
    simp only [List.setIfInBounds_toArray, List.set_cons_zero, List.set_cons_succ]
    refine hPE _ _ ?_
    clear hPE PE
    simp only [List.drop_succ_cons, List.drop_zero, List.drop_nil]
    go_wp2_with fail
    refine ⟨rfl, ?_⟩
    go_wp2_with fail
    refine bodyPost_end (results_none rfl _ _ _) rfl ⟨⟨_, rfl⟩, ?_⟩
    exact ⟨_, cons_drew HS.out, fun B => kf_drew (kf_set (kf_set (HK6.out B) _ _) _ _)⟩
theorem pen_write (w0 : World) (h : Nat) (L : List UInt8) (x : Nat) (hx : x < 2) (hl : L.length < 16777216) (hh : w0.heap.size ≤ h) (w : World) (hp : PenW w0 h L w) :
    Calls Tryz.prog 68 #[.pointer (some ⟨h, 0, none⟩), .int .i64 (x : Int)] w fun e w' => (∃ u, e = .returned u) ∧ PenW w0 h (L ++ [if x = 0 then 48 else 49]) w' ∧ ∀ B, KeepsFrom B w w' := by
  obtain ⟨v, hc⟩ := hp
  unfold PenC at hc
  have hbit : bitB (if x = 0 then 48 else 49) = x := by
    rcases (show x = 0 ∨ x = 1 by omega) with rfl | rfl <;> rfl
  have hlen : (L ++ [if x = 0 then (48 : UInt8) else 49]).length = L.length + 1 := by simp
  by_cases hr : L.length % 8 = 0
  · refine (pen_write_new w0 h v (packL L) L.length x (packL L).length hl hx hr rfl (by rw [packL_length]; omega) hh w hc).mono ?_
    rintro e w' ⟨hu, v', hc', hkf⟩
    refine ⟨hu, ⟨v', ?_⟩, hkf⟩
    unfold PenC
    have e1 := pack_snoc0 L (if x = 0 then 48 else 49) hr
    rw [hbit, hr] at e1
    have e2 : (packL (L ++ [if x = 0 then (48 : UInt8) else 49])).length = (packL L).length + 1 := by rw [e1, List.length_append]; rfl
    rw [e2, e1, hlen]
    exact hc'
  · have hpos : 0 < (packL L).length := by rw [packL_length]; omega
    obtain ⟨g, c, hv, _, _⟩ := row_shape hc.2.2.head hpos
    dsimp only at hv
    subst hv
    have hin : L.length / 8 < (packL L).length := by rw [packL_length]; omega
    have hq : ((packL L).getD (L.length / 8) 0).toNat = byteP L (L.length / 8) := by
      rw [List.getD, packL_get L _ (by rw [packL_length] at hin; exact hin), Option.getD_some, ofNat_toNat8 _ (byteP_lt L _)]
    refine (pen_write_or w0 h g (packL L).length c (packL L) L.length (L.length / 8) (byteP L (L.length / 8)) (x * 2 ^ (7 - L.length % 8)) (L.length % 8) x hl hx rfl rfl hin rfl hq rfl hh w hc (by omega)).mono ?_
    rintro e w' ⟨hu, hc', hkf⟩
    refine ⟨hu, ⟨.slice (some ⟨g, 0, none⟩) (packL L).length c, ?_⟩, hkf⟩
    unfold PenC
    have e1 := pack_snoc1 L (if x = 0 then 48 else 49) hr
    rw [hbit] at e1
    rw [byte_or L x _ hx rfl (by omega), ← e1] at hc'
    have e2 : (packL (L ++ [if x = 0 then (48 : UInt8) else 49])).length = (packL L).length := by rw [e1, List.length_set]
    rw [e2, hlen]
    exact hc'
end Go.Proofs.YtcojnigkgbmbmaaGreatDoor
