/- Ref28 -/
import Derived.Test.YtklelheejopfmaaGreatK16
namespace Go.Proofs.YtklelheejopfmaaGreat
open Go Go.RowKit
attribute [local go_sem] Oper.semAt_some
set_option maxRecDepth 100000 in
set_option maxHeartbeats 2000000 in
theorem ref28_Check (w : World) (A : Option Addr) (hs : List Hd) (n c : Nat) (hS : Sl w A (rowC hdC hs)) (hn : hs.length = n) (hok : HdOk hs) : Calls Tryz.prog 67 #[.slice A n c] w fun e w' => e = .returned (.int .i64 0) ∧ Below w.heap.size w w' := by
  have h64 : ¬ (64 : Int) < (n : Int) := by have := hok.1; omega
  have HS := Lib.hid hS
  have HO := Lib.hid hok
  have HN := Lib.hid hn
  have HL := Lib.hid (show n ≤ 64 by have := hok.1; omega)
  have HB := Lib.hid (Below.refl w.heap.size w)
  clear hS hok hn
  go_enter Tryz.func67, Tryz.ntmps67
  go_wp2_with fail
  go_loopw [3] (fun v3 wr => ∃ i : Nat, v3 = .int .i64 (i : Int) ∧ i ≤ n ∧ Hid (Below w.heap.size w wr)) (fun v3 _ => n - (ixOf v3).toNat)
  case atStart => exact ⟨0, rfl, Nat.zero_le _, HB⟩
  case round =>
    obtain ⟨i, rfl, hi, HI⟩ := hrel
    by_cases hlt : i < n
    · have hli : (i : Int) < (n : Int) := by omega
      have hi0 : ¬ (i : Int) < 0 := by omega
      obtain ⟨i1, hi1⟩ : ∃ i1, i + 1 = i1 := ⟨_, rfl⟩
      have hw1 : wrap64 ((i : Int) + 1) = (i1 : Int) := by have := HL.out; rw [wrap64_id (by omega) (by omega)]; omega
      have HI1 := Lib.hid hi1
      obtain ⟨ad, rfl, hc0, hc1⟩ := sl_hd (HS.out.below HI.out) i (by have := HN.out; omega)
      rw [← hx_lt (by have := HN.out; omega)] at hc0 hc1
      have hyo := HO.out.2.1 (hx hs i) (by rw [hx_lt (by have := HN.out; omega)]; exact List.getElem_mem _)
      obtain ⟨y, hy⟩ : ∃ y, hx hs i = y := ⟨_, rfl⟩
      rw [hy] at hc0 hc1 hyo
      obtain ⟨y1, y2⟩ := y
      dsimp only at hyo hc0 hc1
      have q1 : decide (y1 < 1) = false := decide_eq_false (by omega)
      have q2 : decide (y2 < 0) = false := decide_eq_false (by omega)
      have q3 : decide (64 < y2) = false := decide_eq_false (by omega)
      have HY := Lib.hid hy
      have HLT := Lib.hid hlt
      clear hi hlt hi1 hy hyo
      go_wp2_with fail
      go_loopw [4] (fun v4 wq => ∃ k : Nat, v4 = .int .i64 (k : Int) ∧ k ≤ i ∧ Hid (Below w.heap.size w wq)) (fun v4 _ => i - (ixOf v4).toNat)
      case atStart => exact ⟨0, rfl, Nat.zero_le _, HI⟩
      case round =>
        obtain ⟨k, rfl, hk, HQ⟩ := hrel
        by_cases hkt : k < i
        · have hki : (k : Int) < (i : Int) := by omega
          have hk0 : ¬ (k : Int) < 0 := by omega
          have hkn : (k : Int) < (n : Int) := by have := HLT.out; omega
          obtain ⟨k1, hk1⟩ : ∃ k1, k + 1 = k1 := ⟨_, rfl⟩
          have hwk : wrap64 ((k : Int) + 1) = (k1 : Int) := by have := HL.out; have := HLT.out; rw [wrap64_id (by omega) (by omega)]; omega
          have HK1 := Lib.hid hk1
          have HKT := Lib.hid hkt
          obtain ⟨z, hz⟩ : ∃ z, hx hs k = z := ⟨_, rfl⟩
          obtain ⟨z1, z2⟩ := z
          have hne : (z1 == y1) = false := beq_eq_false_iff_ne.2 (fun e => by
            have h1 := nodup_take HO.out.2.2 (i := i) (by have := HN.out; have := HLT.out; omega)
            apply h1
            have h2 : k < hs.length := by have := HN.out; have := HLT.out; omega
            have h3 : hs[k] ∈ hs.take i := by rw [List.mem_take_iff_getElem]; exact ⟨k, by omega, rfl⟩
            have h4 := List.mem_map_of_mem (f := (·.1)) h3
            rw [← hx_lt h2, hz] at h4
            rw [← hx_lt (by have := HN.out; have := HLT.out; omega), HY.out]
            rw [← e]; exact h4)
          have HC : Hid (∀ W, Sl W (some ad) (rowC hdC hs) → W.cell? (ad.add (k * 2)) = some (.int .i64 z1) ∧ W.cell? (ad.add (i * 2)) = some (.int .i64 y1)) := Lib.hid fun W hW => by
            obtain ⟨ad', e, c0, _⟩ := sl_hd hW k (by have := HN.out; have := HLT.out; omega)
            cases e
            obtain ⟨ad', e, d0, _⟩ := sl_hd hW i (by have := HN.out; have := HLT.out; omega)
            cases e
            rw [← hx_lt (by have := HN.out; have := HLT.out; omega), hz] at c0
            rw [← hx_lt (by have := HN.out; have := HLT.out; omega), HY.out] at d0
            exact ⟨c0, d0⟩
          have HQ2 := Lib.hid (show Below w.heap.size w wr.drew from HQ.out.drew)
          clear hk hkt hk1 hz
          go_wp2_with fail
          refine wp_region_plan2 (fun W => Sl W (some ad) (rowC hdC hs)) 11 [(0, true), (1, true), (2, true), (3, true), (4, true), (5, true), (6, true), (7, true), (8, true), (9, true), (10, true)] (by kernel_rfl) (by kernel_rfl) (fun _ _ d _ _ h => by cases d <;> exact h) (by decide) (by simp only [List.map_cons, List.map_nil, Array.getD_eq_getD_getElem?, List.getElem?_toArray, List.getElem?_cons_zero, List.getElem?_cons_succ, Option.getD_some]; rfl) (by simp only [List.map_cons, List.map_nil]; rfl) (HS.out.below HQ2.out) (fun PE hPE => ?_)
          refine plan_take (v := ?_) rfl (by rfl) ?_ ?_
          rotate_left
          · intro _ hSw; (try dsimp only at hSw); go_simp; (try with_reducible rfl)
          simp only [List.setIfInBounds_toArray, List.set_cons_zero, List.set_cons_succ]
          refine plan_take (v := ?_) rfl (by rfl) ?_ ?_
          rotate_left
          · intro _ hSw; (try dsimp only at hSw); go_simp; (try with_reducible rfl)
          simp only [List.setIfInBounds_toArray, List.set_cons_zero, List.set_cons_succ]
          refine plan_take (v := ?_) rfl (by rfl) ?_ ?_
          rotate_left
          · intro _ hSw; (try dsimp only at hSw); go_simp; (try with_reducible rfl)
          simp only [List.setIfInBounds_toArray, List.set_cons_zero, List.set_cons_succ]
          refine plan_take (v := ?_) rfl (by rfl) ?_ ?_
          rotate_left
          · intro _ hSw; (try dsimp only at hSw); go_simp; (try with_reducible rfl)
          simp only [List.setIfInBounds_toArray, List.set_cons_zero, List.set_cons_succ]
          refine plan_take (v := ?_) rfl (by rfl) ?_ ?_
          rotate_left
          · intro _ hSw; (try dsimp only at hSw); have c1 := (HC.out _ hSw).1; go_simp; (try with_reducible rfl)
          simp only [List.setIfInBounds_toArray, List.set_cons_zero, List.set_cons_succ]
          refine plan_take (v := ?_) rfl (by rfl) ?_ ?_
          rotate_left
          · intro _ hSw; (try dsimp only at hSw); go_simp; (try with_reducible rfl)
          simp only [List.setIfInBounds_toArray, List.set_cons_zero, List.set_cons_succ]
          refine plan_take (v := ?_) rfl (by rfl) ?_ ?_
          rotate_left
          · intro _ hSw; (try dsimp only at hSw); go_simp; (try with_reducible rfl)
          simp only [List.setIfInBounds_toArray, List.set_cons_zero, List.set_cons_succ]
          refine plan_take (v := ?_) rfl (by rfl) ?_ ?_
          rotate_left
          · intro _ hSw; (try dsimp only at hSw); go_simp; (try with_reducible rfl)
          simp only [List.setIfInBounds_toArray, List.set_cons_zero, List.set_cons_succ]
          refine plan_take (v := ?_) rfl (by rfl) ?_ ?_
          rotate_left
          · intro _ hSw; (try dsimp only at hSw); go_simp; (try with_reducible rfl)
          simp only [List.setIfInBounds_toArray, List.set_cons_zero, List.set_cons_succ]
          refine plan_take (v := ?_) rfl (by rfl) ?_ ?_
          rotate_left
          · intro _ hSw; (try dsimp only at hSw); have c1 := (HC.out _ hSw).2; go_simp; (try with_reducible rfl)
          simp only [List.setIfInBounds_toArray, List.set_cons_zero, List.set_cons_succ]
          refine plan_take (v := ?_) rfl (by rfl) ?_ ?_
          rotate_left
          · intro _ hSw; (try dsimp only at hSw); go_simp; (try with_reducible rfl)
          simp only [List.setIfInBounds_toArray, List.set_cons_zero, List.set_cons_succ]
          (refine hPE _ _ ?_; simp only [List.drop_succ_cons, List.drop_zero]; clear hPE PE)
          go_wp2_with fail
          go_roundw
          case rel => exact ⟨k1, (by first | exact congrArg (Value.int .i64) hwk | exact congrArg (Value.int .i64) (by have := HK1.out; omega)), by have := HKT.out; have := HK1.out; omega, HQ2⟩
          case measure => first | exact meas_up hwk HK1.out HKT.out | exact meas_up (x := (k : Int) + 1) (by have := HK1.out; omega) HK1.out HKT.out
        · have hki : ¬ (k : Int) < (i : Int) := by omega
          clear hk hkt
          go_wp2_with fail
          go_roundw
          case rel => exact ⟨i1, (by first | exact congrArg (Value.int .i64) hw1 | exact congrArg (Value.int .i64) (by have := HI1.out; omega)), by have := HLT.out; have := HI1.out; omega, HQ⟩
          case measure => first | exact meas_up hw1 HI1.out HLT.out | exact meas_up (x := (i : Int) + 1) (by have := HI1.out; omega) HI1.out HLT.out
    · have hli : ¬ (i : Int) < (n : Int) := by omega
      clear hi hlt
      go_wp2_with fail
      go_ret
      exact ⟨rfl, HI.out⟩
theorem filter_set {p : Hd → Bool} {rs : List Hd} {i : Nat} (hi : i < rs.length) (hp : p rs[i] = true) {y : Hd} (hy : p y = false) : (rs.filter p).Perm (rs[i] :: (rs.set i y).filter p) := by
  have h1 : rs = rs.take i ++ rs[i] :: rs.drop (i + 1) := by rw [← List.drop_eq_getElem_cons hi, List.take_append_drop]
  have h2 : rs.set i y = rs.take i ++ y :: rs.drop (i + 1) := List.set_eq_take_append_cons_drop .. |>.trans (by rw [if_pos hi])
  have h3 : rs.filter p = (rs.take i).filter p ++ rs[i] :: (rs.drop (i + 1)).filter p := by
    have h4 := congrArg (List.filter p) h1
    rw [List.filter_append, List.filter_cons, if_pos hp] at h4
    exact h4
  rw [h3, h2, List.filter_append, List.filter_cons, if_neg (by rw [hy]; decide)]
  exact List.perm_middle
theorem first_next {V rs : List Hd} {k n : Nat} {j : Nat} (hn : rs.length = n) (hV : V.Pairwise (fun a b => ¬ ltH b a)) (hp : (rs.filter posH).Perm (V.drop k)) (hf : FirstAt rs n j) :
    j < n ∧ k < V.length ∧ 0 < (hx rs j).2 ∧ (∀ h : k < V.length, V[k] = hx rs j) ∧ ((rs.set j ((hx rs j).1, 0)).filter posH).Perm (V.drop (k + 1)) := by
  rcases hf with ⟨h1, _⟩ | ⟨j', h1, h2, h3, h4⟩
  · omega
  have e : j = j' := by omega
  subst e
  have hj : j < rs.length := by omega
  have hpj : posH rs[j] = true := by rw [← hx_lt hj]; exact decide_eq_true h3
  have h5 := filter_set (p := posH) hj hpj (y := ((hx rs j).1, 0)) rfl
  have hmem : rs[j] ∈ rs.filter posH := List.mem_filter.2 ⟨List.getElem_mem _, hpj⟩
  have hk : k < V.length := by
    have h6 := hp.mem_iff.1 hmem
    rcases Nat.lt_or_ge k V.length with h | h
    · exact h
    · rw [List.drop_eq_nil_of_le h] at h6; cases h6
  have hd : V.drop k = V[k] :: V.drop (k + 1) := List.drop_eq_getElem_cons hk
  have hv : rs[j] = V[k] := by
    refine least_is (l := rs.filter posH) (V := V.drop (k + 1)) (by rw [← hd]; exact hV.drop) (by rw [← hd]; exact hp) hmem (fun x hxm => ?_)
    obtain ⟨hx1, hx2⟩ := List.mem_filter.1 hxm
    obtain ⟨q, hq, rfl⟩ := List.getElem_of_mem hx1
    have := h4 q (by omega) (by rw [hx_lt hq]; exact of_decide_eq_true hx2)
    rw [hx_lt hq, hx_lt hj] at this
    exact this
  refine ⟨h2, hk, h3, fun _ => by rw [hx_lt hj, hv], ?_⟩
  have h7 := hp
  rw [hd, ← hv] at h7
  exact (List.perm_cons _).1 (h5.symm.trans h7)
theorem first_over {V rs : List Hd} {k n : Nat} (hn : rs.length = n) (hp : (rs.filter posH).Perm (V.drop k)) (hf : FirstAt rs n (-1)) : V.drop k = [] := by
  rcases hf with ⟨_, h1⟩ | ⟨j, h1, _⟩
  · have h2 : rs.filter posH = [] := List.filter_eq_nil_iff.2 (fun x hxm => by
      obtain ⟨q, hq, rfl⟩ := List.getElem_of_mem hxm
      have := h1 q (by omega)
      rw [hx_lt hq] at this
      simpa [posH] using this)
    rw [h2] at hp
    exact hp.nil_eq.symm
  · omega
theorem row_apart {w : World} {b1 b2 e1 e2 s1 s2 n1 n2 : Nat} {v1 v2 : Value} {x1 x2 : List Value} (h1 : w.ownsRow b1 e1 s1 v1 n1 x1) (h2 : w.ownsRow b2 e2 s2 v2 n2 x2) (hne : e1 ≠ e2) (g : Nat) (hg : v2.ownBlock = some g) : v1.ownBlock ≠ some g := by
  rcases h2.2 with ⟨rfl, _⟩ | ⟨g2, cap, cur, rfl, _, hh, _⟩
  · cases hg
  · have : g2 = g := by simpa [Value.ownBlock] using hg
    subst this
    exact own_blk_ne h1 (show Blk w g2 e2 cur from hh) hne
theorem own_grown {w w' : World} {b e s n : Nat} {v : Value} {xs : List Value} {row : Option Nat} (h : w.ownsRow b e s v n xs) (hg : w.grownBy w' row) (hne : ∀ g, v.ownBlock = some g → row ≠ some g) : w'.ownsRow b e s v n xs := by
  refine ⟨h.1, ?_⟩
  rcases h.2 with h2 | ⟨g, cap, cur, rfl, hb, hh, r⟩
  · exact .inl h2
  · have hl : g < w.heap.size := by
      rcases Nat.lt_or_ge g w.heap.size with hlt | hge
      · exact hlt
      · rw [Array.getElem?_eq_none hge] at hh; cases hh
    exact .inr ⟨g, cap, cur, rfl, hb, (hg.block g hl (fun e => hne g rfl e.symm)).trans hh, r⟩
theorem etHolds : ElemT Tryz.prog 91 93 2 16 := .mk' (z := .agg #[.int .i64 0, .int .i64 0]) (by kernel_rfl) (by kernel_rfl) rfl (by decide) (by decide)
theorem hdC_one (hs : List Hd) : ∀ u ∈ rowC hdC hs, u.oneCell' = true := by
  intro u hu
  obtain ⟨h, _, hh⟩ := List.mem_flatMap.1 hu
  simp [hdC] at hh
  rcases hh with rfl | rfl <;> rfl
theorem own_any {w : World} {b e s n : Nat} {v : Value} {xs : List Value} (h : w.ownsRow b e s v n xs) : ∃ A c, v = .slice A n c := by
  rcases h.2 with ⟨rfl, rfl⟩ | ⟨g, cap, cur, rfl, _⟩
  · exact ⟨_, _, rfl⟩
  · exact ⟨_, _, rfl⟩
theorem row_sl {w : World} {b e s n c : Nat} {A : Option Addr} {xs : List Value} (h : w.ownsRow b e s (.slice A n c) n xs) : Sl w A xs := by
  rcases h.2 with ⟨h1, h2⟩ | ⟨g, cap, cur, h1, hbg, hh, r1, r2, r3, r4⟩
  · have : xs = [] := List.eq_nil_of_length_eq_zero (by rw [h.1, h2]; simp)
    subst this
    exact Sl.nil _ _
  · cases h1
    have := (Blk.sl (w := w) (g := g) (t := e) (cs := cur) hh 0).take (n * s)
    rw [List.drop_zero, r4] at this
    exact this
/-- between two rounds of the reference's Plan -/
structure RfI (w : World) (V : List Hd) (free want : Int) (n : Nat) (v9 : Value) (k : Nat) (rs : List Hd) (v10 : Value) (f a : Int) (W : World) : Prop where
  rest : HRow W w.heap.size v9 rs
  len : rs.length = n
  out : IRow W w.heap.size v10 ((V.take k).map (·.1))
  perm : (rs.filter posH).Perm (V.drop k)
  kk : k ≤ V.length
  at_ : FirstAt rs n a
  pl : planOut V free want = (V.take k).map (·.1) ++ planOut (V.drop k) f want
  f0 : 0 ≤ f
  f1 : f ≤ 10000 + 64 * k
  pos : ∀ x ∈ rs, x.2 ≤ 64
  bel : Below w.heap.size w W
theorem RfI.own {w W : World} {V : List Hd} {free want f a : Int} {n k : Nat} {v9 v10 : Value} {rs : List Hd} (h : RfI w V free want n v9 k rs v10 f a W) : W.ownsRow w.heap.size 3 1 v10 k (((V.take k).map (·.1)).map intV) := by
  have h1 := h.out
  unfold IRow at h1
  have h2 : ((V.take k).map (·.1)).length = k := by rw [List.length_map, List.length_take]; have := h.kk; omega
  rwa [h2] at h1
theorem RfI.step {w W w7 : World} {V : List Hd} {free want f : Int} {n k j g c5 : Nat} {v10 v7 : Value} {rs : List Hd} {x1 x2 : Int} (h : RfI w V free want n (.slice (some ⟨g, 0, none⟩) n c5) k rs v10 f j W) (hV : V.Pairwise (fun a b => ¬ ltH b a)) (hx0 : hx rs j = (x1, x2)) (hfw : f < want)
    (ho : w7.ownsRow w.heap.size 3 1 v7 (k + 1) (((V.take k).map (·.1)).map intV ++ [.int .i64 x1])) (hg : (W.alloc (.cells #[.int .i64 x1] 3)).grownBy w7 v10.ownBlock) :
    0 < x2 ∧ x2 ≤ 64 ∧ k < V.length ∧ w7.cell? ⟨g, j * 2 + 1, none⟩ = some (.int .i64 x2) ∧ w7.frozen? ⟨g, j * 2 + 1, none⟩ = false ∧ HRow (w7.setCell ⟨g, j * 2 + 1, none⟩ (.int .i64 0)) w.heap.size (.slice (some ⟨g, 0, none⟩) n c5) (rs.set j (x1, 0)) ∧
      ∀ w9 a9, Below (w7.setCell ⟨g, j * 2 + 1, none⟩ (.int .i64 0)).heap.size (w7.setCell ⟨g, j * 2 + 1, none⟩ (.int .i64 0)) w9 → FirstAt (rs.set j (x1, 0)) n a9 → RfI w V free want n (.slice (some ⟨g, 0, none⟩) n c5) (k + 1) (rs.set j (x1, 0)) v7 (f + x2) a9 w9 := by
  obtain ⟨hj, hk, hpos, hv, hperm⟩ := first_next h.len hV h.perm h.at_
  have hjl : j < rs.length := by have := h.len; omega
  rw [hx0] at hpos hperm
  have hvk : V[k] = (x1, x2) := by rw [hv hk, hx0]
  have h64 : x2 ≤ 64 := by have := h.pos rs[j] (List.getElem_mem _); rw [← hx_lt hjl, hx0] at this; exact this
  have hrest : HRow (W.alloc (.cells #[.int .i64 x1] 3)) w.heap.size (.slice (some ⟨g, 0, none⟩) n c5) rs := h.rest.below ((Below.refl _ _).alloc (Nat.le_refl _) _)
  have hout : (W.alloc (.cells #[.int .i64 x1] 3)).ownsRow w.heap.size 3 1 v10 k (((V.take k).map (·.1)).map intV) := own_below h.own ((Below.refl _ _).alloc (Nat.le_refl _) _) (Nat.le_refl _)
  have hr7 : HRow w7 w.heap.size (.slice (some ⟨g, 0, none⟩) n c5) rs := own_grown hrest hg (fun g' hg' => row_apart hout hrest (by decide) g' hg')
  have hr7n := hr7
  unfold HRow at hr7n
  rw [h.len] at hr7n
  have hset := row_set hdC_len (xs := rs) hr7n j hjl 1 (by decide) (.int .i64 0) (x1, 0) (by rw [← hx_lt hjl, hx0]; rfl)
  have hr8 : HRow (w7.setCell ⟨g, j * 2 + 1, none⟩ (.int .i64 0)) w.heap.size (.slice (some ⟨g, 0, none⟩) n c5) (rs.set j (x1, 0)) := by
    unfold HRow
    rw [List.length_set, h.len]
    exact hset
  have hc := (hr7.cells h.len j (by omega)).2
  rw [hx0] at hc
  refine ⟨hpos, h64, hk, hc, hr7.set_frozen h.len _, hr8, fun w9 a9 hb9 hf9 => ?_⟩
  have htk : (V.take (k + 1)).map (·.1) = (V.take k).map (·.1) ++ [x1] := by rw [List.take_succ_eq_append_getElem hk, List.map_append, hvk]; rfl
  have ho8 : (w7.setCell ⟨g, j * 2 + 1, none⟩ (.int .i64 0)).ownsRow w.heap.size 3 1 v7 (k + 1) (((V.take k).map (·.1)).map intV ++ [.int .i64 x1]) := own_set ho ⟨g, j * 2 + 1, none⟩ _ (row_apart ho hr7 (by decide) g rfl)
  refine ⟨hr8.below hb9, by rw [List.length_set]; exact h.len, ?_, hperm, hk, hf9, ?_, by have := h.f0; omega, by have := h.f1; push_cast; omega, ?_, ?_⟩
  · have h1 := own_below ho8 hb9 (Nat.le_refl _)
    unfold IRow
    rw [htk, List.map_append]
    have h2 : ((V.take k).map (·.1) ++ [x1]).length = k + 1 := by rw [List.length_append, List.length_map, List.length_take]; have := h.kk; simp; omega
    rw [h2]
    exact h1
  · rw [h.pl, List.drop_eq_getElem_cons hk, planOut, if_neg (by omega), htk, hvk]
    simp
  · intro x hxm
    rcases List.mem_or_eq_of_mem_set hxm with h1 | rfl
    · exact h.pos x h1
    · show (0 : Int) ≤ 64; decide
  · have h1 : Below w.heap.size w w7 := below_app (h.bel.alloc h.bel.size _) hout hg (by rw [World.size_alloc]; have := h.bel.size; omega) (Nat.le_refl _)
    have h2 : Below w.heap.size w (w7.setCell ⟨g, j * 2 + 1, none⟩ (.int .i64 0)) := h1.setCell (p := ⟨g, j * 2 + 1, none⟩) (hr7.lt g rfl).1 _
    exact h2.trans (hb9.mono h2.size)
set_option maxRecDepth 100000 in
set_option maxHeartbeats 4000000 in
theorem ref28_Plan (w : World) (A : Option Addr) (hs : List Hd) (c : Nat) (hS : Sl w A (rowC hdC hs)) (hok : HdOk hs) (V : List Hd) (hV : Vict V hs) (free want : Int) (hf : 0 ≤ free ∧ free ≤ 10000) (hwt : 0 ≤ want ∧ want ≤ 10000) :
    Calls Tryz.prog 59 #[.slice A hs.length c, .int .i64 free, .int .i64 want] w (PlanPost V free want w) := by
  have g1 : decide (free < 0) = false := decide_eq_false (by omega)
  have g2 : decide (10000 < free) = false := decide_eq_false (by omega)
  have g3 : decide (want < 0) = false := decide_eq_false (by omega)
  have g4 : decide (10000 < want) = false := decide_eq_false (by omega)
  obtain ⟨n, hn⟩ : ∃ n, hs.length = n := ⟨_, rfl⟩
  have CK := Lib.hid (ref28_Check w A hs n c hS hn hok)
  have HS := Lib.hid hS; have HO := Lib.hid hok; have HV := Lib.hid hV; have HF := Lib.hid (And.intro hf hwt); have HN := Lib.hid hn
  rw [hn]
  clear hS hok hV hf hwt hn
  have TOK : True := trivial
  go_enter Tryz.func59, Tryz.ntmps59
  go_wp2_with (first
    | (go_at_call 67; refine CK.out.mono ?_; rintro e w1 ⟨rfl, hb1⟩; have HB1 := Lib.hid hb1; clear hb1)
    | (at_builtin; refine wpList_app etHolds rfl rfl rfl (xs := []) (n := 0) (base := w.heap.size) (World.ownsRow_lit _ #[] 0 (by have := HB1.out.size; exact this) (by unfold maxLen; omega) rfl) rfl (m := n) (news := rowC hdC hs) (by rw [rowC_len hdC_len, HN.out]) (HS.out.below (HB1.out.alloc HB1.out.size _)) (hdC_one hs) (by have := HO.out.1; have := HN.out; omega) (by rw [World.size_alloc]; have := HB1.out.size; omega) ?_; intro v5 w5 ho5 hg5 hor5; rw [Nat.zero_add, List.nil_append] at ho5; obtain ⟨A5, c5, rfl⟩ := own_any ho5; have HR5 := Lib.hid (show HRow w5 w.heap.size (.slice A5 n c5) hs by unfold HRow; rw [HN.out]; exact ho5); have HB5 := Lib.hid (below_app (HB1.out.alloc HB1.out.size (.cells #[] 93)) (World.ownsRow_lit (e := 93) (size := 2) _ #[] 0 (by have := HB1.out.size; exact this) (by unfold maxLen; omega) rfl) hg5 (by rw [World.size_alloc]; have := HB1.out.size; omega) (Nat.le_refl _)); clear ho5 hg5 hor5)
    | (go_at_call 68; clear TOK; refine (ref28_first _ A5 hs n c5 (row_sl (by have h1 := HR5.out; unfold HRow at h1; rw [HN.out] at h1; exact h1)) HN.out (by have := HO.out.1; have := HN.out; omega)).mono ?_; rintro e w6 ⟨a6, rfl, hf6, hb6⟩; have HF6 := Lib.hid hf6; have HR6 := Lib.hid (HR5.out.below hb6); have HB6 := Lib.hid (HB5.out.trans (hb6.mono HB5.out.size)); clear hf6 hb6))
  have HI0 := Lib.hid (show RfI w V free want n (.slice A5 n c5) 0 hs (.slice none 0 0) free a6 w6 from ⟨HR6.out, HN.out, World.ownsRow_nil _ _ _ _, HV.out.2.symm, Nat.zero_le _, HF6.out, rfl, HF.out.1.1, by have := HF.out.1.2; simpa using this, fun x hxm => (HO.out.2.1 x hxm).2.2, HB6.out⟩)
  clear HR5 HB5 HF6 HR6 HB6 HB1 CK
  go_loopw [1, 10, 11] (fun v1 v10 v11 wr => ∃ (k : Nat) (rs : List Hd) (f a : Int), v1 = .int .i64 f ∧ v11 = .int .i64 a ∧ Hid (RfI w V free want n (.slice A5 n c5) k rs v10 f a wr)) (fun v1 _ _ _ => (want - ixOf v1).toNat)
  case atStart => exact ⟨0, hs, free, a6, rfl, rfl, HI0⟩
  case round =>
    obtain ⟨k, rs, f, a, rfl, rfl, HI⟩ := hrel
    obtain ⟨A10, c10, rfl⟩ := own_any HI.out.own
    by_cases ha : a = -1
    · subst ha
      have HP := Lib.hid (show planOut V free want = (V.take k).map (·.1) by have h1 := HI.out.pl; rw [first_over HI.out.len HI.out.perm HI.out.at_, planOut, List.append_nil] at h1; exact h1)
      go_wp2_with fail
      go_returns
      exact ⟨_, f, rfl, by rw [HP.out]; exact HI.out.out, HI.out.bel⟩
    · obtain ⟨j, rfl⟩ : ∃ j : Nat, a = j := by
        rcases HI.out.at_ with ⟨h1, _⟩ | ⟨j, h1, _⟩
        · exact absurd h1 ha
        · exact ⟨j, h1⟩
      have hj0 : ¬ (j : Int) < 0 := by omega
      clear ha
      by_cases hfw : f < want
      · have hfd : decide (f < want) = true := decide_eq_true hfw
        have HJ := Lib.hid (first_next HI.out.len HV.out.1 HI.out.perm HI.out.at_)
        have hjl : (j : Int) < (n : Int) := by have := HJ.out.1; omega
        obtain ⟨g, cp, e, _, _⟩ := row_shape HI.out.rest (by have := HI.out.len; have := HJ.out.1; omega)
        injection e with e1 e2 e3
        subst e1
        clear e2 e3
        obtain ⟨x, hx0⟩ : ∃ x, hx rs j = x := ⟨_, rfl⟩
        obtain ⟨x1, x2⟩ := x
        have hc := (HI.out.rest.cells HI.out.len j HJ.out.1)
        rw [hx0] at hc
        have hc1 := hc.1
        have HX := Lib.hid hx0
        have HFW := Lib.hid hfw
        have HK := Lib.hid (show k ≤ 64 by have h1 := HJ.out.2.1; have h2 := HV.out.2.length_eq; have h3 := List.length_filter_le (fun h : Hd => decide (0 < h.2)) hs; have := HO.out.1; omega)
        have hw : wrap64 (f + x2) = f + x2 := by
          have h1 := HI.out.f0; have h2 := HI.out.f1; have h3 := HK.out
          have h4 := HJ.out.2.2.1
          rw [hx0] at h4
          dsimp only at h4
          have h5 := HI.out.pos (hx rs j) (by rw [hx_lt (by have := HI.out.len; have := HJ.out.1; omega)]; exact List.getElem_mem _)
          rw [hx0] at h5
          dsimp only at h5
          exact wrap64_id (by omega) (by omega)
        have TK2 : True := trivial
        clear hc hx0 hfw
        go_wp2_with (first
          | (at_builtin; refine wpList_app etInt rfl rfl rfl (own_below HI.out.own ((Below.refl _ _).alloc (Nat.le_refl _) (.cells #[.int .i64 x1] 3)) (Nat.le_refl _)) rfl (m := 1) (news := [.int .i64 x1]) rfl ((Blk.new _ 3 #[.int .i64 x1]).sl 0) (by intro u hu; simp at hu; subst hu; rfl) (by have := HK.out; omega) (by rw [World.size_alloc]; have := HI.out.bel.size; omega) ?_; intro v7 w7 ho7 hg7 hor7; obtain ⟨A7, c7, rfl⟩ := own_any ho7; have hst := HI.out.step HV.out.1 HX.out HFW.out ho7 hg7; have d1 := hst.2.2.2.1; have e1 := hst.2.2.2.2.1; have HST := Lib.hid hst; clear ho7 hg7 hor7 hst)
          | (go_at_call 68; clear TK2; refine (ref28_first _ _ _ n c5 (row_sl (by have h1 := HST.out.2.2.2.2.2.1; unfold HRow at h1; rw [List.length_set, HI.out.len] at h1; exact h1)) (by rw [List.length_set]; exact HI.out.len) (by have := HO.out.1; have := HN.out; omega)).mono ?_; rintro e w9 ⟨a9, rfl, hf9, hb9⟩; have HI9 := Lib.hid (HST.out.2.2.2.2.2.2 w9 a9 hb9 hf9); clear hf9 hb9))
        go_roundw
        case rel => exact ⟨k + 1, rs.set j (x1, 0), f + x2, a9, rfl, rfl, HI9⟩
        case measure =>
          have h1 := HFW.out
          have h2 := HST.out.1
          show (want - (f + x2)).toNat < (want - f).toNat
          omega
      · have hfd : decide (f < want) = false := decide_eq_false hfw
        have HP := Lib.hid (show planOut V free want = (V.take k).map (·.1) by
          have h1 := HI.out.pl
          have h2 : planOut (V.drop k) f want = [] := by
            cases V.drop k with
            | nil => rfl
            | cons a l => rw [planOut, if_pos (by omega)]
          rw [h2, List.append_nil] at h1; exact h1)
        clear hfw
        go_wp2_with fail
        go_returns
        exact ⟨_, f, rfl, by rw [HP.out]; exact HI.out.out, HI.out.bel⟩
end Go.Proofs.YtklelheejopfmaaGreat
