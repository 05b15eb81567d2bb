/- First28 -/
import Derived.Test.YtklelheejopfmaaGreatK15
namespace Go.Proofs.YtklelheejopfmaaGreat
open Go Go.RowKit
attribute [local go_sem] Oper.semAt_some
/-- where the victim stands among the first i. -/
def FirstAt (rs : List Hd) (i : Nat) (at_ : Int) : Prop := (at_ = -1 ∧ ∀ k, k < i → ¬ 0 < (hx rs k).2) ∨ (∃ j : Nat, at_ = j ∧ j < i ∧ 0 < (hx rs j).2 ∧ ∀ k, k < i → 0 < (hx rs k).2 → ¬ ltH (hx rs k) (hx rs j))
theorem first_none {rs : List Hd} {i : Nat} {a : Int} (h : FirstAt rs i a) (hp : ¬ 0 < (hx rs i).2) : FirstAt rs (i + 1) a := by
  rcases h with ⟨h1, h2⟩ | ⟨j, h1, h2, h3, h4⟩
  · exact .inl ⟨h1, fun k hk => by by_cases e : k = i; subst e; exact hp; exact h2 k (by omega)⟩
  · exact .inr ⟨j, h1, by omega, h3, fun k hk h5 => by by_cases e : k = i; subst e; exact absurd h5 hp; exact h4 k (by omega) h5⟩
theorem first_new {rs : List Hd} {i : Nat} {a : Int} (h : FirstAt rs i a) (hp : 0 < (hx rs i).2) (hl : ∀ j : Nat, a = j → ltH (hx rs i) (hx rs j)) : FirstAt rs (i + 1) i := by
  refine .inr ⟨i, rfl, by omega, hp, fun k hk h5 => ?_⟩
  by_cases e : k = i
  · subst e; exact ltH_irr _
  · rcases h with ⟨h1, h2⟩ | ⟨j, h1, h2, h3, h4⟩
    · exact absurd h5 (h2 k (by omega))
    · exact fun h6 => h4 k (by omega) h5 (ltH_trans h6 (hl j h1))
theorem first_old {rs : List Hd} {i : Nat} {j : Nat} (h : FirstAt rs i j) (hl : ¬ ltH (hx rs i) (hx rs j)) : FirstAt rs (i + 1) j := by
  rcases h with ⟨h1, h2⟩ | ⟨j', h1, h2, h3, h4⟩
  · omega
  · have : j = j' := by omega
    subst this
    exact .inr ⟨j, rfl, by omega, h3, fun k hk h5 => by by_cases e : k = i; subst e; exact hl; exact h4 k (by omega) h5⟩
set_option maxRecDepth 100000 in
set_option maxHeartbeats 4000000 in
theorem ref28_first (w : World) (A : Option Addr) (rs : List Hd) (n c : Nat) (hS : Sl w A (rowC hdC rs)) (hn : rs.length = n) (hl : n ≤ 1000) :
    Calls Tryz.prog 68 #[.slice A n c] w fun e w' => ∃ a, e = .returned (.int .i64 a) ∧ FirstAt rs n a ∧ Below w.heap.size w w' := by
  have HS := Lib.hid hS
  have HN := Lib.hid hn
  have HL := Lib.hid hl
  have HB := Lib.hid (Below.refl w.heap.size w)
  clear hS hn hl
  go_enter Tryz.func68, Tryz.ntmps68
  go_wp2_with fail
  go_loopw [3, 4] (fun v3 v4 wr => ∃ (i : Nat) (a : Int), v3 = .int .i64 a ∧ v4 = .int .i64 (i : Int) ∧ i ≤ n ∧ Hid (FirstAt rs i a) ∧ Hid (Below w.heap.size w wr)) (fun _ v4 _ => n - (ixOf v4).toNat)
  case atStart => exact ⟨0, -1, rfl, rfl, Nat.zero_le _, Lib.hid (.inl ⟨rfl, fun k hk => by omega⟩), HB⟩
  case round =>
    obtain ⟨i, a, rfl, rfl, hi, HA, HI⟩ := hrel
    by_cases hlt : i < n
    · have hli : (i : Int) < (n : Int) := by omega
      have hi0 : ¬ (i : Int) < 0 := by omega
      obtain ⟨i1, hi1⟩ : ∃ i1, i + 1 = i1 := ⟨_, rfl⟩
      have hw1 : wrap64 ((i : Int) + 1) = (i1 : Int) := by have := HL.out; rw [wrap64_id (by omega) (by omega)]; omega
      have HI1 := Lib.hid hi1
      have HI2 := Lib.hid (show Below w.heap.size w wr.drew from HI.out.drew)
      obtain ⟨ad, rfl, q0, q1⟩ := sl_hd HS.out i (by have := HN.out; omega)
      clear q0 q1
      have HLT := Lib.hid hlt
      obtain ⟨y, hy⟩ : ∃ y, hx rs i = y := ⟨_, rfl⟩
      obtain ⟨y1, y2⟩ := y
      have HCI : Hid (∀ W, Sl W (some ad) (rowC hdC rs) → W.cell? (ad.add (i * 2)) = some (.int .i64 y1) ∧ W.cell? ⟨(ad.add (i * 2)).block, (ad.add (i * 2)).off + 1, none⟩ = some (.int .i64 y2)) := Lib.hid fun W hW => by
        obtain ⟨ad', e, c0, c1⟩ := sl_hd hW i (by have := HN.out; omega)
        cases e
        rw [← hx_lt (by have := HN.out; omega), hy] at c0 c1
        exact ⟨c0, c1⟩
      have HY := Lib.hid hy
      clear hi hlt hi1 hy
      by_cases hp : 0 < y2
      · have p1 : decide (0 < y2) = true := decide_eq_true hp
        by_cases ha : a = -1
        · subst ha
          have HC : Hid (∀ W, Sl W (some ad) (rowC hdC rs) → (W.cell? (ad.add (i * 2)) = some (.int .i64 y1) ∧ W.cell? ⟨(ad.add (i * 2)).block, (ad.add (i * 2)).off + 1, none⟩ = some (.int .i64 y2)) ∧ True) := Lib.hid fun W hW => ⟨HCI.out W hW, trivial⟩
          have HF := Lib.hid (first_new HA.out (by rw [HY.out]; exact hp) (fun j hj => by omega))
          clear hp
          go_wp2_with fail
          refine wp_region_plan2 (fun W => Sl W (some ad) (rowC hdC rs)) 49 [(0, true), (1, true), (2, true), (3, true), (4, true), (5, true), (6, true), (7, true), (8, true), (9, true), (10, true), (11, true), (12, true), (13, true), (14, true), (15, true), (16, true), (17, true), (18, true), (19, true), (20, true), (21, true), (22, true), (23, true), (24, true), (25, true), (26, true), (27, true), (28, true), (29, true), (30, true), (31, true), (32, true), (33, true), (34, true), (35, true), (36, true), (37, true), (38, true), (39, true), (40, true), (41, true), (42, true), (43, true), (44, true), (45, true), (46, true), (47, true), (48, true)] (by kernel_rfl) (by kernel_rfl) (fun _ _ d _ _ h => by cases d <;> exact h) (by decide) (by simp only [List.map_cons, List.map_nil, Array.getD_eq_getD_getElem?, List.getElem?_toArray, List.getElem?_cons_zero, List.getElem?_cons_succ, Option.getD_some]; rfl) (by simp only [List.map_cons, List.map_nil]; rfl) (HS.out.below HI2.out) (fun PE hPE => ?_)
          refine plan_take (v := ?_) rfl (by rfl) ?_ ?_
          rotate_left
          · intro _ hSw; (try dsimp only at hSw); go_simp; (try with_reducible rfl)
          simp only [List.setIfInBounds_toArray, List.set_cons_zero, List.set_cons_succ]
          refine plan_take (v := ?_) rfl (by rfl) ?_ ?_
          rotate_left
          · intro _ hSw; (try dsimp only at hSw); go_simp; (try with_reducible rfl)
          simp only [List.setIfInBounds_toArray, List.set_cons_zero, List.set_cons_succ]
          refine plan_take (v := ?_) rfl (by rfl) ?_ ?_
          rotate_left
          · intro _ hSw; (try dsimp only at hSw); go_simp; (try with_reducible rfl)
          simp only [List.setIfInBounds_toArray, List.set_cons_zero, List.set_cons_succ]
          refine plan_take (v := ?_) rfl (by rfl) ?_ ?_
          rotate_left
          · intro _ hSw; (try dsimp only at hSw); go_simp; (try with_reducible rfl)
          simp only [List.setIfInBounds_toArray, List.set_cons_zero, List.set_cons_succ]
          refine plan_take (v := ?_) rfl (by rfl) ?_ ?_
          rotate_left
          · intro _ hSw; (try dsimp only at hSw); have c1 := (HC.out _ hSw).1.2; go_simp; (try with_reducible rfl)
          simp only [List.setIfInBounds_toArray, List.set_cons_zero, List.set_cons_succ]
          refine plan_take (v := ?_) rfl (by rfl) ?_ ?_
          rotate_left
          · intro _ hSw; (try dsimp only at hSw); go_simp; (try with_reducible rfl)
          simp only [List.setIfInBounds_toArray, List.set_cons_zero, List.set_cons_succ]
          refine plan_take (v := ?_) rfl (by rfl) ?_ ?_
          rotate_left
          · intro _ hSw; (try dsimp only at hSw); go_simp; (try with_reducible rfl)
          simp only [List.setIfInBounds_toArray, List.set_cons_zero, List.set_cons_succ]
          refine plan_take (v := ?_) rfl (by rfl) ?_ ?_
          rotate_left
          · intro _ hSw; (try dsimp only at hSw); go_simp; (try with_reducible rfl)
          simp only [List.setIfInBounds_toArray, List.set_cons_zero, List.set_cons_succ]
          refine plan_take (v := ?_) rfl (by rfl) ?_ ?_
          rotate_left
          · intro _ hSw; (try dsimp only at hSw); go_simp; (try with_reducible rfl)
          simp only [List.setIfInBounds_toArray, List.set_cons_zero, List.set_cons_succ]
          refine plan_take (v := ?_) rfl (by rfl) ?_ ?_
          rotate_left
          · intro _ hSw; (try dsimp only at hSw); go_simp; (try with_reducible rfl)
          simp only [List.setIfInBounds_toArray, List.set_cons_zero, List.set_cons_succ]
          refine plan_pass rfl (by rfl) ?_
          simp only [List.setIfInBounds_toArray, List.set_cons_zero, List.set_cons_succ]
          refine plan_pass rfl (by rfl) ?_
          simp only [List.setIfInBounds_toArray, List.set_cons_zero, List.set_cons_succ]
          refine plan_pass rfl (by rfl) ?_
          simp only [List.setIfInBounds_toArray, List.set_cons_zero, List.set_cons_succ]
          refine plan_pass rfl (by rfl) ?_
          simp only [List.setIfInBounds_toArray, List.set_cons_zero, List.set_cons_succ]
          refine plan_pass rfl (by rfl) ?_
          simp only [List.setIfInBounds_toArray, List.set_cons_zero, List.set_cons_succ]
          refine plan_pass rfl (by rfl) ?_
          simp only [List.setIfInBounds_toArray, List.set_cons_zero, List.set_cons_succ]
          refine plan_pass rfl (by rfl) ?_
          simp only [List.setIfInBounds_toArray, List.set_cons_zero, List.set_cons_succ]
          refine plan_pass rfl (by rfl) ?_
          simp only [List.setIfInBounds_toArray, List.set_cons_zero, List.set_cons_succ]
          refine plan_pass rfl (by rfl) ?_
          simp only [List.setIfInBounds_toArray, List.set_cons_zero, List.set_cons_succ]
          refine plan_pass rfl (by rfl) ?_
          simp only [List.setIfInBounds_toArray, List.set_cons_zero, List.set_cons_succ]
          refine plan_pass rfl (by rfl) ?_
          simp only [List.setIfInBounds_toArray, List.set_cons_zero, List.set_cons_succ]
          refine plan_take (v := ?_) rfl (by rfl) ?_ ?_
          rotate_left
          · intro _ hSw; (try dsimp only at hSw); go_simp; (try with_reducible rfl)
          simp only [List.setIfInBounds_toArray, List.set_cons_zero, List.set_cons_succ]
          refine plan_take (v := ?_) rfl (by rfl) ?_ ?_
          rotate_left
          · intro _ hSw; (try dsimp only at hSw); go_simp; (try with_reducible rfl)
          simp only [List.setIfInBounds_toArray, List.set_cons_zero, List.set_cons_succ]
          refine plan_pass rfl (by rfl) ?_
          simp only [List.setIfInBounds_toArray, List.set_cons_zero, List.set_cons_succ]
          refine plan_pass rfl (by rfl) ?_
          simp only [List.setIfInBounds_toArray, List.set_cons_zero, List.set_cons_succ]
          refine plan_pass rfl (by rfl) ?_
          simp only [List.setIfInBounds_toArray, List.set_cons_zero, List.set_cons_succ]
          refine plan_pass rfl (by rfl) ?_
          simp only [List.setIfInBounds_toArray, List.set_cons_zero, List.set_cons_succ]
          refine plan_pass rfl (by rfl) ?_
          simp only [List.setIfInBounds_toArray, List.set_cons_zero, List.set_cons_succ]
          refine plan_pass rfl (by rfl) ?_
          simp only [List.setIfInBounds_toArray, List.set_cons_zero, List.set_cons_succ]
          refine plan_pass rfl (by rfl) ?_
          simp only [List.setIfInBounds_toArray, List.set_cons_zero, List.set_cons_succ]
          refine plan_pass rfl (by rfl) ?_
          simp only [List.setIfInBounds_toArray, List.set_cons_zero, List.set_cons_succ]
          refine plan_pass rfl (by rfl) ?_
          simp only [List.setIfInBounds_toArray, List.set_cons_zero, List.set_cons_succ]
          refine plan_pass rfl (by rfl) ?_
          simp only [List.setIfInBounds_toArray, List.set_cons_zero, List.set_cons_succ]
          refine plan_pass rfl (by rfl) ?_
          simp only [List.setIfInBounds_toArray, List.set_cons_zero, List.set_cons_succ]
          refine plan_pass rfl (by rfl) ?_
          simp only [List.setIfInBounds_toArray, List.set_cons_zero, List.set_cons_succ]
          refine plan_pass rfl (by rfl) ?_
          simp only [List.setIfInBounds_toArray, List.set_cons_zero, List.set_cons_succ]
          refine plan_pass rfl (by rfl) ?_
          simp only [List.setIfInBounds_toArray, List.set_cons_zero, List.set_cons_succ]
          refine plan_pass rfl (by rfl) ?_
          simp only [List.setIfInBounds_toArray, List.set_cons_zero, List.set_cons_succ]
          refine plan_pass rfl (by rfl) ?_
          simp only [List.setIfInBounds_toArray, List.set_cons_zero, List.set_cons_succ]
          refine plan_pass rfl (by rfl) ?_
          simp only [List.setIfInBounds_toArray, List.set_cons_zero, List.set_cons_succ]
          refine plan_pass rfl (by rfl) ?_
          simp only [List.setIfInBounds_toArray, List.set_cons_zero, List.set_cons_succ]
          refine plan_pass rfl (by rfl) ?_
          simp only [List.setIfInBounds_toArray, List.set_cons_zero, List.set_cons_succ]
          refine plan_pass rfl (by rfl) ?_
          simp only [List.setIfInBounds_toArray, List.set_cons_zero, List.set_cons_succ]
          refine plan_pass rfl (by rfl) ?_
          simp only [List.setIfInBounds_toArray, List.set_cons_zero, List.set_cons_succ]
          refine plan_pass rfl (by rfl) ?_
          simp only [List.setIfInBounds_toArray, List.set_cons_zero, List.set_cons_succ]
          refine plan_pass rfl (by rfl) ?_
          simp only [List.setIfInBounds_toArray, List.set_cons_zero, List.set_cons_succ]
          refine plan_pass rfl (by rfl) ?_
          simp only [List.setIfInBounds_toArray, List.set_cons_zero, List.set_cons_succ]
          refine plan_take (v := ?_) rfl (by rfl) ?_ ?_
          rotate_left
          · intro _ hSw; (try dsimp only at hSw); go_simp; (try with_reducible rfl)
          simp only [List.setIfInBounds_toArray, List.set_cons_zero, List.set_cons_succ]
          refine plan_take (v := ?_) rfl (by rfl) ?_ ?_
          rotate_left
          · intro _ hSw; (try dsimp only at hSw); go_simp; (try with_reducible rfl)
          simp only [List.setIfInBounds_toArray, List.set_cons_zero, List.set_cons_succ]
          (refine hPE _ _ ?_; simp only [List.drop_succ_cons, List.drop_zero]; clear hPE PE)
          go_wp2_with fail
          go_roundw
          case rel => exact ⟨i1, (i : Int), rfl, congrArg (Value.int .i64) hw1, by have := HLT.out; have := HI1.out; omega, Lib.hid (by rw [← HI1.out]; exact HF.out), HI2⟩
          case measure => exact meas_up hw1 HI1.out HLT.out
        · obtain ⟨j, rfl, hj⟩ : ∃ j : Nat, a = j ∧ j < i := by
            rcases HA.out with ⟨h1, _⟩ | ⟨j, h1, h2, _⟩
            · exact absurd h1 ha
            · exact ⟨j, h1, h2⟩
          have hlj : (j : Int) < (n : Int) := by omega
          have hj0 : ¬ (j : Int) < 0 := by omega
          have hj1 : decide ((j : Int) < 0) = false := decide_eq_false hj0
          obtain ⟨z, hz⟩ : ∃ z, hx rs j = z := ⟨_, rfl⟩
          obtain ⟨z1, z2⟩ := z
          have HC : Hid (∀ W, Sl W (some ad) (rowC hdC rs) → (W.cell? (ad.add (i * 2)) = some (.int .i64 y1) ∧ W.cell? ⟨(ad.add (i * 2)).block, (ad.add (i * 2)).off + 1, none⟩ = some (.int .i64 y2)) ∧ (W.cell? (ad.add (j * 2)) = some (.int .i64 z1) ∧ W.cell? ⟨(ad.add (j * 2)).block, (ad.add (j * 2)).off + 1, none⟩ = some (.int .i64 z2))) := Lib.hid fun W hW => by
            refine ⟨HCI.out W hW, ?_⟩
            obtain ⟨ad', e, c0, c1⟩ := sl_hd hW j (by have := HN.out; have := HLT.out; omega)
            cases e
            rw [← hx_lt (by have := HN.out; have := HLT.out; omega), hz] at c0 c1
            exact ⟨c0, c1⟩
          have HZ := Lib.hid hz
          clear ha hj hz
          by_cases hc : z2 < y2
          · have p2 : decide (z2 < y2) = true := decide_eq_true hc
            have HF := Lib.hid (first_new HA.out (by rw [HY.out]; exact hp) (fun j' hj' => by
              have e : j = j' := by omega
              subst e
              rw [HY.out, HZ.out]; exact .inl hc))
            clear hp hc
            go_wp2_with fail
            refine wp_region_plan2 (fun W => Sl W (some ad) (rowC hdC rs)) 49 [(0, true), (1, true), (2, true), (3, true), (4, true), (5, true), (6, true), (7, true), (8, true), (9, true), (10, true), (11, true), (12, true), (13, true), (14, true), (15, true), (16, true), (17, true), (18, true), (19, true), (20, true), (21, true), (22, true), (23, true), (24, true), (25, true), (26, true), (27, true), (28, true), (29, true), (30, true), (31, true), (32, true), (33, true), (34, true), (35, true), (36, true), (37, true), (38, true), (39, true), (40, true), (41, true), (42, true), (43, true), (44, true), (45, true), (46, true), (47, true), (48, true)] (by kernel_rfl) (by kernel_rfl) (fun _ _ d _ _ h => by cases d <;> exact h) (by decide) (by simp only [List.map_cons, List.map_nil, Array.getD_eq_getD_getElem?, List.getElem?_toArray, List.getElem?_cons_zero, List.getElem?_cons_succ, Option.getD_some]; rfl) (by simp only [List.map_cons, List.map_nil]; rfl) (HS.out.below HI2.out) (fun PE hPE => ?_)
            refine plan_take (v := ?_) rfl (by rfl) ?_ ?_
            rotate_left
            · intro _ hSw; (try dsimp only at hSw); go_simp; (try with_reducible rfl)
            simp only [List.setIfInBounds_toArray, List.set_cons_zero, List.set_cons_succ]
            refine plan_take (v := ?_) rfl (by rfl) ?_ ?_
            rotate_left
            · intro _ hSw; (try dsimp only at hSw); go_simp; (try with_reducible rfl)
            simp only [List.setIfInBounds_toArray, List.set_cons_zero, List.set_cons_succ]
            refine plan_take (v := ?_) rfl (by rfl) ?_ ?_
            rotate_left
            · intro _ hSw; (try dsimp only at hSw); go_simp; (try with_reducible rfl)
            simp only [List.setIfInBounds_toArray, List.set_cons_zero, List.set_cons_succ]
            refine plan_take (v := ?_) rfl (by rfl) ?_ ?_
            rotate_left
            · intro _ hSw; (try dsimp only at hSw); go_simp; (try with_reducible rfl)
            simp only [List.setIfInBounds_toArray, List.set_cons_zero, List.set_cons_succ]
            refine plan_take (v := ?_) rfl (by rfl) ?_ ?_
            rotate_left
            · intro _ hSw; (try dsimp only at hSw); have c1 := (HC.out _ hSw).1.2; go_simp; (try with_reducible rfl)
            simp only [List.setIfInBounds_toArray, List.set_cons_zero, List.set_cons_succ]
            refine plan_take (v := ?_) rfl (by rfl) ?_ ?_
            rotate_left
            · intro _ hSw; (try dsimp only at hSw); go_simp; (try with_reducible rfl)
            simp only [List.setIfInBounds_toArray, List.set_cons_zero, List.set_cons_succ]
            refine plan_take (v := ?_) rfl (by rfl) ?_ ?_
            rotate_left
            · intro _ hSw; (try dsimp only at hSw); go_simp; (try with_reducible rfl)
            simp only [List.setIfInBounds_toArray, List.set_cons_zero, List.set_cons_succ]
            refine plan_take (v := ?_) rfl (by rfl) ?_ ?_
            rotate_left
            · intro _ hSw; (try dsimp only at hSw); go_simp; (try with_reducible rfl)
            simp only [List.setIfInBounds_toArray, List.set_cons_zero, List.set_cons_succ]
            refine plan_take (v := ?_) rfl (by rfl) ?_ ?_
            rotate_left
            · intro _ hSw; (try dsimp only at hSw); go_simp; (try with_reducible rfl)
            simp only [List.setIfInBounds_toArray, List.set_cons_zero, List.set_cons_succ]
            refine plan_take (v := ?_) rfl (by rfl) ?_ ?_
            rotate_left
            · intro _ hSw; (try dsimp only at hSw); go_simp; (try with_reducible rfl)
            simp only [List.setIfInBounds_toArray, List.set_cons_zero, List.set_cons_succ]
            refine plan_take (v := ?_) rfl (by rfl) ?_ ?_
            rotate_left
            · intro _ hSw; (try dsimp only at hSw); go_simp; (try with_reducible rfl)
            simp only [List.setIfInBounds_toArray, List.set_cons_zero, List.set_cons_succ]
            refine plan_take (v := ?_) rfl (by rfl) ?_ ?_
            rotate_left
            · intro _ hSw; (try dsimp only at hSw); go_simp; (try with_reducible rfl)
            simp only [List.setIfInBounds_toArray, List.set_cons_zero, List.set_cons_succ]
            refine plan_take (v := ?_) rfl (by rfl) ?_ ?_
            rotate_left
            · intro _ hSw; (try dsimp only at hSw); go_simp; (try with_reducible rfl)
            simp only [List.setIfInBounds_toArray, List.set_cons_zero, List.set_cons_succ]
            refine plan_take (v := ?_) rfl (by rfl) ?_ ?_
            rotate_left
            · intro _ hSw; (try dsimp only at hSw); go_simp; (try with_reducible rfl)
            simp only [List.setIfInBounds_toArray, List.set_cons_zero, List.set_cons_succ]
            refine plan_take (v := ?_) rfl (by rfl) ?_ ?_
            rotate_left
            · intro _ hSw; (try dsimp only at hSw); have c1 := (HC.out _ hSw).1.2; go_simp; (try with_reducible rfl)
            simp only [List.setIfInBounds_toArray, List.set_cons_zero, List.set_cons_succ]
            refine plan_take (v := ?_) rfl (by rfl) ?_ ?_
            rotate_left
            · intro _ hSw; (try dsimp only at hSw); go_simp; (try with_reducible rfl)
            simp only [List.setIfInBounds_toArray, List.set_cons_zero, List.set_cons_succ]
            refine plan_take (v := ?_) rfl (by rfl) ?_ ?_
            rotate_left
            · intro _ hSw; (try dsimp only at hSw); go_simp; (try with_reducible rfl)
            simp only [List.setIfInBounds_toArray, List.set_cons_zero, List.set_cons_succ]
            refine plan_take (v := ?_) rfl (by rfl) ?_ ?_
            rotate_left
            · intro _ hSw; (try dsimp only at hSw); go_simp; (try with_reducible rfl)
            simp only [List.setIfInBounds_toArray, List.set_cons_zero, List.set_cons_succ]
            refine plan_take (v := ?_) rfl (by rfl) ?_ ?_
            rotate_left
            · intro _ hSw; (try dsimp only at hSw); go_simp; (try with_reducible rfl)
            simp only [List.setIfInBounds_toArray, List.set_cons_zero, List.set_cons_succ]
            refine plan_take (v := ?_) rfl (by rfl) ?_ ?_
            rotate_left
            · intro _ hSw; (try dsimp only at hSw); have c1 := (HC.out _ hSw).2.2; go_simp; (try with_reducible rfl)
            simp only [List.setIfInBounds_toArray, List.set_cons_zero, List.set_cons_succ]
            refine plan_take (v := ?_) rfl (by rfl) ?_ ?_
            rotate_left
            · intro _ hSw; (try dsimp only at hSw); go_simp; (try with_reducible rfl)
            simp only [List.setIfInBounds_toArray, List.set_cons_zero, List.set_cons_succ]
            refine plan_take (v := ?_) rfl (by rfl) ?_ ?_
            rotate_left
            · intro _ hSw; (try dsimp only at hSw); go_simp; (try with_reducible rfl)
            simp only [List.setIfInBounds_toArray, List.set_cons_zero, List.set_cons_succ]
            refine plan_take (v := ?_) rfl (by rfl) ?_ ?_
            rotate_left
            · intro _ hSw; (try dsimp only at hSw); go_simp; (try with_reducible rfl)
            simp only [List.setIfInBounds_toArray, List.set_cons_zero, List.set_cons_succ]
            refine plan_pass rfl (by rfl) ?_
            simp only [List.setIfInBounds_toArray, List.set_cons_zero, List.set_cons_succ]
            refine plan_pass rfl (by rfl) ?_
            simp only [List.setIfInBounds_toArray, List.set_cons_zero, List.set_cons_succ]
            refine plan_pass rfl (by rfl) ?_
            simp only [List.setIfInBounds_toArray, List.set_cons_zero, List.set_cons_succ]
            refine plan_pass rfl (by rfl) ?_
            simp only [List.setIfInBounds_toArray, List.set_cons_zero, List.set_cons_succ]
            refine plan_pass rfl (by rfl) ?_
            simp only [List.setIfInBounds_toArray, List.set_cons_zero, List.set_cons_succ]
            refine plan_pass rfl (by rfl) ?_
            simp only [List.setIfInBounds_toArray, List.set_cons_zero, List.set_cons_succ]
            refine plan_pass rfl (by rfl) ?_
            simp only [List.setIfInBounds_toArray, List.set_cons_zero, List.set_cons_succ]
            refine plan_pass rfl (by rfl) ?_
            simp only [List.setIfInBounds_toArray, List.set_cons_zero, List.set_cons_succ]
            refine plan_pass rfl (by rfl) ?_
            simp only [List.setIfInBounds_toArray, List.set_cons_zero, List.set_cons_succ]
            refine plan_pass rfl (by rfl) ?_
            simp only [List.setIfInBounds_toArray, List.set_cons_zero, List.set_cons_succ]
            refine plan_pass rfl (by rfl) ?_
            simp only [List.setIfInBounds_toArray, List.set_cons_zero, List.set_cons_succ]
            refine plan_pass rfl (by rfl) ?_
            simp only [List.setIfInBounds_toArray, List.set_cons_zero, List.set_cons_succ]
            refine plan_pass rfl (by rfl) ?_
            simp only [List.setIfInBounds_toArray, List.set_cons_zero, List.set_cons_succ]
            refine plan_pass rfl (by rfl) ?_
            simp only [List.setIfInBounds_toArray, List.set_cons_zero, List.set_cons_succ]
            refine plan_pass rfl (by rfl) ?_
            simp only [List.setIfInBounds_toArray, List.set_cons_zero, List.set_cons_succ]
            refine plan_pass rfl (by rfl) ?_
            simp only [List.setIfInBounds_toArray, List.set_cons_zero, List.set_cons_succ]
            refine plan_pass rfl (by rfl) ?_
            simp only [List.setIfInBounds_toArray, List.set_cons_zero, List.set_cons_succ]
            refine plan_pass rfl (by rfl) ?_
            simp only [List.setIfInBounds_toArray, List.set_cons_zero, List.set_cons_succ]
            refine plan_pass rfl (by rfl) ?_
            simp only [List.setIfInBounds_toArray, List.set_cons_zero, List.set_cons_succ]
            refine plan_pass rfl (by rfl) ?_
            simp only [List.setIfInBounds_toArray, List.set_cons_zero, List.set_cons_succ]
            refine plan_pass rfl (by rfl) ?_
            simp only [List.setIfInBounds_toArray, List.set_cons_zero, List.set_cons_succ]
            refine plan_pass rfl (by rfl) ?_
            simp only [List.setIfInBounds_toArray, List.set_cons_zero, List.set_cons_succ]
            refine plan_pass rfl (by rfl) ?_
            simp only [List.setIfInBounds_toArray, List.set_cons_zero, List.set_cons_succ]
            refine plan_pass rfl (by rfl) ?_
            simp only [List.setIfInBounds_toArray, List.set_cons_zero, List.set_cons_succ]
            refine plan_take (v := ?_) rfl (by rfl) ?_ ?_
            rotate_left
            · intro _ hSw; (try dsimp only at hSw); go_simp; (try with_reducible rfl)
            simp only [List.setIfInBounds_toArray, List.set_cons_zero, List.set_cons_succ]
            refine plan_take (v := ?_) rfl (by rfl) ?_ ?_
            rotate_left
            · intro _ hSw; (try dsimp only at hSw); go_simp; (try with_reducible rfl)
            simp only [List.setIfInBounds_toArray, List.set_cons_zero, List.set_cons_succ]
            (refine hPE _ _ ?_; simp only [List.drop_succ_cons, List.drop_zero]; clear hPE PE)
            go_wp2_with fail
            go_roundw
            case rel => exact ⟨i1, (i : Int), rfl, congrArg (Value.int .i64) hw1, by have := HLT.out; have := HI1.out; omega, Lib.hid (by rw [← HI1.out]; exact HF.out), HI2⟩
            case measure => exact meas_up hw1 HI1.out HLT.out
          · have p2 : decide (z2 < y2) = false := decide_eq_false hc
            by_cases he : y2 = z2
            · subst he
              have p3 : (y2 == y2) = true := beq_self_eq_true y2
              by_cases hd : y1 < z1
              · have p4 : decide (y1 < z1) = true := decide_eq_true hd
                have HF := Lib.hid (first_new HA.out (by rw [HY.out]; exact hp) (fun j' hj' => by
                  have e : j = j' := by omega
                  subst e
                  rw [HY.out, HZ.out]; exact .inr ⟨rfl, hd⟩))
                clear hp hc hd
                go_wp2_with fail
                refine wp_region_plan2 (fun W => Sl W (some ad) (rowC hdC rs)) 49 [(0, true), (1, true), (2, true), (3, true), (4, true), (5, true), (6, true), (7, true), (8, true), (9, true), (10, true), (11, true), (12, true), (13, true), (14, true), (15, true), (16, true), (17, true), (18, true), (19, true), (20, true), (21, true), (22, true), (23, true), (24, true), (25, true), (26, true), (27, true), (28, true), (29, true), (30, true), (31, true), (32, true), (33, true), (34, true), (35, true), (36, true), (37, true), (38, true), (39, true), (40, true), (41, true), (42, true), (43, true), (44, true), (45, true), (46, true), (47, true), (48, true)] (by kernel_rfl) (by kernel_rfl) (fun _ _ d _ _ h => by cases d <;> exact h) (by decide) (by simp only [List.map_cons, List.map_nil, Array.getD_eq_getD_getElem?, List.getElem?_toArray, List.getElem?_cons_zero, List.getElem?_cons_succ, Option.getD_some]; rfl) (by simp only [List.map_cons, List.map_nil]; rfl) (HS.out.below HI2.out) (fun PE hPE => ?_)
                refine plan_take (v := ?_) rfl (by rfl) ?_ ?_
                rotate_left
                · intro _ hSw; (try dsimp only at hSw); go_simp; (try with_reducible rfl)
                simp only [List.setIfInBounds_toArray, List.set_cons_zero, List.set_cons_succ]
                refine plan_take (v := ?_) rfl (by rfl) ?_ ?_
                rotate_left
                · intro _ hSw; (try dsimp only at hSw); go_simp; (try with_reducible rfl)
                simp only [List.setIfInBounds_toArray, List.set_cons_zero, List.set_cons_succ]
                refine plan_take (v := ?_) rfl (by rfl) ?_ ?_
                rotate_left
                · intro _ hSw; (try dsimp only at hSw); go_simp; (try with_reducible rfl)
                simp only [List.setIfInBounds_toArray, List.set_cons_zero, List.set_cons_succ]
                refine plan_take (v := ?_) rfl (by rfl) ?_ ?_
                rotate_left
                · intro _ hSw; (try dsimp only at hSw); go_simp; (try with_reducible rfl)
                simp only [List.setIfInBounds_toArray, List.set_cons_zero, List.set_cons_succ]
                refine plan_take (v := ?_) rfl (by rfl) ?_ ?_
                rotate_left
                · intro _ hSw; (try dsimp only at hSw); have c1 := (HC.out _ hSw).1.2; go_simp; (try with_reducible rfl)
                simp only [List.setIfInBounds_toArray, List.set_cons_zero, List.set_cons_succ]
                refine plan_take (v := ?_) rfl (by rfl) ?_ ?_
                rotate_left
                · intro _ hSw; (try dsimp only at hSw); go_simp; (try with_reducible rfl)
                simp only [List.setIfInBounds_toArray, List.set_cons_zero, List.set_cons_succ]
                refine plan_take (v := ?_) rfl (by rfl) ?_ ?_
                rotate_left
                · intro _ hSw; (try dsimp only at hSw); go_simp; (try with_reducible rfl)
                simp only [List.setIfInBounds_toArray, List.set_cons_zero, List.set_cons_succ]
                refine plan_take (v := ?_) rfl (by rfl) ?_ ?_
                rotate_left
                · intro _ hSw; (try dsimp only at hSw); go_simp; (try with_reducible rfl)
                simp only [List.setIfInBounds_toArray, List.set_cons_zero, List.set_cons_succ]
                refine plan_take (v := ?_) rfl (by rfl) ?_ ?_
                rotate_left
                · intro _ hSw; (try dsimp only at hSw); go_simp; (try with_reducible rfl)
                simp only [List.setIfInBounds_toArray, List.set_cons_zero, List.set_cons_succ]
                refine plan_take (v := ?_) rfl (by rfl) ?_ ?_
                rotate_left
                · intro _ hSw; (try dsimp only at hSw); go_simp; (try with_reducible rfl)
                simp only [List.setIfInBounds_toArray, List.set_cons_zero, List.set_cons_succ]
                refine plan_take (v := ?_) rfl (by rfl) ?_ ?_
                rotate_left
                · intro _ hSw; (try dsimp only at hSw); go_simp; (try with_reducible rfl)
                simp only [List.setIfInBounds_toArray, List.set_cons_zero, List.set_cons_succ]
                refine plan_take (v := ?_) rfl (by rfl) ?_ ?_
                rotate_left
                · intro _ hSw; (try dsimp only at hSw); go_simp; (try with_reducible rfl)
                simp only [List.setIfInBounds_toArray, List.set_cons_zero, List.set_cons_succ]
                refine plan_take (v := ?_) rfl (by rfl) ?_ ?_
                rotate_left
                · intro _ hSw; (try dsimp only at hSw); go_simp; (try with_reducible rfl)
                simp only [List.setIfInBounds_toArray, List.set_cons_zero, List.set_cons_succ]
                refine plan_take (v := ?_) rfl (by rfl) ?_ ?_
                rotate_left
                · intro _ hSw; (try dsimp only at hSw); go_simp; (try with_reducible rfl)
                simp only [List.setIfInBounds_toArray, List.set_cons_zero, List.set_cons_succ]
                refine plan_take (v := ?_) rfl (by rfl) ?_ ?_
                rotate_left
                · intro _ hSw; (try dsimp only at hSw); have c1 := (HC.out _ hSw).1.2; go_simp; (try with_reducible rfl)
                simp only [List.setIfInBounds_toArray, List.set_cons_zero, List.set_cons_succ]
                refine plan_take (v := ?_) rfl (by rfl) ?_ ?_
                rotate_left
                · intro _ hSw; (try dsimp only at hSw); go_simp; (try with_reducible rfl)
                simp only [List.setIfInBounds_toArray, List.set_cons_zero, List.set_cons_succ]
                refine plan_take (v := ?_) rfl (by rfl) ?_ ?_
                rotate_left
                · intro _ hSw; (try dsimp only at hSw); go_simp; (try with_reducible rfl)
                simp only [List.setIfInBounds_toArray, List.set_cons_zero, List.set_cons_succ]
                refine plan_take (v := ?_) rfl (by rfl) ?_ ?_
                rotate_left
                · intro _ hSw; (try dsimp only at hSw); go_simp; (try with_reducible rfl)
                simp only [List.setIfInBounds_toArray, List.set_cons_zero, List.set_cons_succ]
                refine plan_take (v := ?_) rfl (by rfl) ?_ ?_
                rotate_left
                · intro _ hSw; (try dsimp only at hSw); go_simp; (try with_reducible rfl)
                simp only [List.setIfInBounds_toArray, List.set_cons_zero, List.set_cons_succ]
                refine plan_take (v := ?_) rfl (by rfl) ?_ ?_
                rotate_left
                · intro _ hSw; (try dsimp only at hSw); have c1 := (HC.out _ hSw).2.2; go_simp; (try with_reducible rfl)
                simp only [List.setIfInBounds_toArray, List.set_cons_zero, List.set_cons_succ]
                refine plan_take (v := ?_) rfl (by rfl) ?_ ?_
                rotate_left
                · intro _ hSw; (try dsimp only at hSw); go_simp; (try with_reducible rfl)
                simp only [List.setIfInBounds_toArray, List.set_cons_zero, List.set_cons_succ]
                refine plan_take (v := ?_) rfl (by rfl) ?_ ?_
                rotate_left
                · intro _ hSw; (try dsimp only at hSw); go_simp; (try with_reducible rfl)
                simp only [List.setIfInBounds_toArray, List.set_cons_zero, List.set_cons_succ]
                refine plan_take (v := ?_) rfl (by rfl) ?_ ?_
                rotate_left
                · intro _ hSw; (try dsimp only at hSw); go_simp; (try with_reducible rfl)
                simp only [List.setIfInBounds_toArray, List.set_cons_zero, List.set_cons_succ]
                refine plan_take (v := ?_) rfl (by rfl) ?_ ?_
                rotate_left
                · intro _ hSw; (try dsimp only at hSw); go_simp; (try with_reducible rfl)
                simp only [List.setIfInBounds_toArray, List.set_cons_zero, List.set_cons_succ]
                refine plan_take (v := ?_) rfl (by rfl) ?_ ?_
                rotate_left
                · intro _ hSw; (try dsimp only at hSw); go_simp; (try with_reducible rfl)
                simp only [List.setIfInBounds_toArray, List.set_cons_zero, List.set_cons_succ]
                refine plan_take (v := ?_) rfl (by rfl) ?_ ?_
                rotate_left
                · intro _ hSw; (try dsimp only at hSw); go_simp; (try with_reducible rfl)
                simp only [List.setIfInBounds_toArray, List.set_cons_zero, List.set_cons_succ]
                refine plan_take (v := ?_) rfl (by rfl) ?_ ?_
                rotate_left
                · intro _ hSw; (try dsimp only at hSw); go_simp; (try with_reducible rfl)
                simp only [List.setIfInBounds_toArray, List.set_cons_zero, List.set_cons_succ]
                refine plan_take (v := ?_) rfl (by rfl) ?_ ?_
                rotate_left
                · intro _ hSw; (try dsimp only at hSw); have c1 := (HC.out _ hSw).1.2; go_simp; (try with_reducible rfl)
                simp only [List.setIfInBounds_toArray, List.set_cons_zero, List.set_cons_succ]
                refine plan_take (v := ?_) rfl (by rfl) ?_ ?_
                rotate_left
                · intro _ hSw; (try dsimp only at hSw); go_simp; (try with_reducible rfl)
                simp only [List.setIfInBounds_toArray, List.set_cons_zero, List.set_cons_succ]
                refine plan_take (v := ?_) rfl (by rfl) ?_ ?_
                rotate_left
                · intro _ hSw; (try dsimp only at hSw); go_simp; (try with_reducible rfl)
                simp only [List.setIfInBounds_toArray, List.set_cons_zero, List.set_cons_succ]
                refine plan_take (v := ?_) rfl (by rfl) ?_ ?_
                rotate_left
                · intro _ hSw; (try dsimp only at hSw); go_simp; (try with_reducible rfl)
                simp only [List.setIfInBounds_toArray, List.set_cons_zero, List.set_cons_succ]
                refine plan_take (v := ?_) rfl (by rfl) ?_ ?_
                rotate_left
                · intro _ hSw; (try dsimp only at hSw); go_simp; (try with_reducible rfl)
                simp only [List.setIfInBounds_toArray, List.set_cons_zero, List.set_cons_succ]
                refine plan_take (v := ?_) rfl (by rfl) ?_ ?_
                rotate_left
                · intro _ hSw; (try dsimp only at hSw); have c1 := (HC.out _ hSw).2.2; go_simp; (try with_reducible rfl)
                simp only [List.setIfInBounds_toArray, List.set_cons_zero, List.set_cons_succ]
                refine plan_take (v := ?_) rfl (by rfl) ?_ ?_
                rotate_left
                · intro _ hSw; (try dsimp only at hSw); go_simp; (try with_reducible rfl)
                simp only [List.setIfInBounds_toArray, List.set_cons_zero, List.set_cons_succ]
                refine plan_take (v := ?_) rfl (by rfl) ?_ ?_
                rotate_left
                · intro _ hSw; (try dsimp only at hSw); go_simp; (try with_reducible rfl)
                simp only [List.setIfInBounds_toArray, List.set_cons_zero, List.set_cons_succ]
                refine plan_take (v := ?_) rfl (by rfl) ?_ ?_
                rotate_left
                · intro _ hSw; (try dsimp only at hSw); go_simp; (try with_reducible rfl)
                simp only [List.setIfInBounds_toArray, List.set_cons_zero, List.set_cons_succ]
                refine plan_take (v := ?_) rfl (by rfl) ?_ ?_
                rotate_left
                · intro _ hSw; (try dsimp only at hSw); go_simp; (try with_reducible rfl)
                simp only [List.setIfInBounds_toArray, List.set_cons_zero, List.set_cons_succ]
                refine plan_take (v := ?_) rfl (by rfl) ?_ ?_
                rotate_left
                · intro _ hSw; (try dsimp only at hSw); go_simp; (try with_reducible rfl)
                simp only [List.setIfInBounds_toArray, List.set_cons_zero, List.set_cons_succ]
                refine plan_take (v := ?_) rfl (by rfl) ?_ ?_
                rotate_left
                · intro _ hSw; (try dsimp only at hSw); go_simp; (try with_reducible rfl)
                simp only [List.setIfInBounds_toArray, List.set_cons_zero, List.set_cons_succ]
                refine plan_take (v := ?_) rfl (by rfl) ?_ ?_
                rotate_left
                · intro _ hSw; (try dsimp only at hSw); have c1 := (HC.out _ hSw).1.1; go_simp; (try with_reducible rfl)
                simp only [List.setIfInBounds_toArray, List.set_cons_zero, List.set_cons_succ]
                refine plan_take (v := ?_) rfl (by rfl) ?_ ?_
                rotate_left
                · intro _ hSw; (try dsimp only at hSw); go_simp; (try with_reducible rfl)
                simp only [List.setIfInBounds_toArray, List.set_cons_zero, List.set_cons_succ]
                refine plan_take (v := ?_) rfl (by rfl) ?_ ?_
                rotate_left
                · intro _ hSw; (try dsimp only at hSw); go_simp; (try with_reducible rfl)
                simp only [List.setIfInBounds_toArray, List.set_cons_zero, List.set_cons_succ]
                refine plan_take (v := ?_) rfl (by rfl) ?_ ?_
                rotate_left
                · intro _ hSw; (try dsimp only at hSw); go_simp; (try with_reducible rfl)
                simp only [List.setIfInBounds_toArray, List.set_cons_zero, List.set_cons_succ]
                refine plan_take (v := ?_) rfl (by rfl) ?_ ?_
                rotate_left
                · intro _ hSw; (try dsimp only at hSw); go_simp; (try with_reducible rfl)
                simp only [List.setIfInBounds_toArray, List.set_cons_zero, List.set_cons_succ]
                refine plan_take (v := ?_) rfl (by rfl) ?_ ?_
                rotate_left
                · intro _ hSw; (try dsimp only at hSw); have c1 := (HC.out _ hSw).2.1; go_simp; (try with_reducible rfl)
                simp only [List.setIfInBounds_toArray, List.set_cons_zero, List.set_cons_succ]
                refine plan_take (v := ?_) rfl (by rfl) ?_ ?_
                rotate_left
                · intro _ hSw; (try dsimp only at hSw); go_simp; (try with_reducible rfl)
                simp only [List.setIfInBounds_toArray, List.set_cons_zero, List.set_cons_succ]
                refine plan_take (v := ?_) rfl (by rfl) ?_ ?_
                rotate_left
                · intro _ hSw; (try dsimp only at hSw); go_simp; (try with_reducible rfl)
                simp only [List.setIfInBounds_toArray, List.set_cons_zero, List.set_cons_succ]
                refine plan_take (v := ?_) rfl (by rfl) ?_ ?_
                rotate_left
                · intro _ hSw; (try dsimp only at hSw); go_simp; (try with_reducible rfl)
                simp only [List.setIfInBounds_toArray, List.set_cons_zero, List.set_cons_succ]
                refine plan_take (v := ?_) rfl (by rfl) ?_ ?_
                rotate_left
                · intro _ hSw; (try dsimp only at hSw); go_simp; (try with_reducible rfl)
                simp only [List.setIfInBounds_toArray, List.set_cons_zero, List.set_cons_succ]
                (refine hPE _ _ ?_; simp only [List.drop_succ_cons, List.drop_zero]; clear hPE PE)
                go_wp2_with fail
                go_roundw
                case rel => exact ⟨i1, (i : Int), rfl, congrArg (Value.int .i64) hw1, by have := HLT.out; have := HI1.out; omega, Lib.hid (by rw [← HI1.out]; exact HF.out), HI2⟩
                case measure => exact meas_up hw1 HI1.out HLT.out
              · have p4 : decide (y1 < z1) = false := decide_eq_false hd
                have HF := Lib.hid (first_old HA.out (by rw [HY.out, HZ.out]; unfold ltH; dsimp only; omega))
                clear hp hc hd
                go_wp2_with fail
                refine wp_region_plan2 (fun W => Sl W (some ad) (rowC hdC rs)) 49 [(0, true), (1, true), (2, true), (3, true), (4, true), (5, true), (6, true), (7, true), (8, true), (9, true), (10, true), (11, true), (12, true), (13, true), (14, true), (15, true), (16, true), (17, true), (18, true), (19, true), (20, true), (21, true), (22, true), (23, true), (24, true), (25, true), (26, true), (27, true), (28, true), (29, true), (30, true), (31, true), (32, true), (33, true), (34, true), (35, true), (36, true), (37, true), (38, true), (39, true), (40, true), (41, true), (42, true), (43, true), (44, true), (45, true), (46, true), (47, true), (48, true)] (by kernel_rfl) (by kernel_rfl) (fun _ _ d _ _ h => by cases d <;> exact h) (by decide) (by simp only [List.map_cons, List.map_nil, Array.getD_eq_getD_getElem?, List.getElem?_toArray, List.getElem?_cons_zero, List.getElem?_cons_succ, Option.getD_some]; rfl) (by simp only [List.map_cons, List.map_nil]; rfl) (HS.out.below HI2.out) (fun PE hPE => ?_)
                refine plan_take (v := ?_) rfl (by rfl) ?_ ?_
                rotate_left
                · intro _ hSw; (try dsimp only at hSw); go_simp; (try with_reducible rfl)
                simp only [List.setIfInBounds_toArray, List.set_cons_zero, List.set_cons_succ]
                refine plan_take (v := ?_) rfl (by rfl) ?_ ?_
                rotate_left
                · intro _ hSw; (try dsimp only at hSw); go_simp; (try with_reducible rfl)
                simp only [List.setIfInBounds_toArray, List.set_cons_zero, List.set_cons_succ]
                refine plan_take (v := ?_) rfl (by rfl) ?_ ?_
                rotate_left
                · intro _ hSw; (try dsimp only at hSw); go_simp; (try with_reducible rfl)
                simp only [List.setIfInBounds_toArray, List.set_cons_zero, List.set_cons_succ]
                refine plan_take (v := ?_) rfl (by rfl) ?_ ?_
                rotate_left
                · intro _ hSw; (try dsimp only at hSw); go_simp; (try with_reducible rfl)
                simp only [List.setIfInBounds_toArray, List.set_cons_zero, List.set_cons_succ]
                refine plan_take (v := ?_) rfl (by rfl) ?_ ?_
                rotate_left
                · intro _ hSw; (try dsimp only at hSw); have c1 := (HC.out _ hSw).1.2; go_simp; (try with_reducible rfl)
                simp only [List.setIfInBounds_toArray, List.set_cons_zero, List.set_cons_succ]
                refine plan_take (v := ?_) rfl (by rfl) ?_ ?_
                rotate_left
                · intro _ hSw; (try dsimp only at hSw); go_simp; (try with_reducible rfl)
                simp only [List.setIfInBounds_toArray, List.set_cons_zero, List.set_cons_succ]
                refine plan_take (v := ?_) rfl (by rfl) ?_ ?_
                rotate_left
                · intro _ hSw; (try dsimp only at hSw); go_simp; (try with_reducible rfl)
                simp only [List.setIfInBounds_toArray, List.set_cons_zero, List.set_cons_succ]
                refine plan_take (v := ?_) rfl (by rfl) ?_ ?_
                rotate_left
                · intro _ hSw; (try dsimp only at hSw); go_simp; (try with_reducible rfl)
                simp only [List.setIfInBounds_toArray, List.set_cons_zero, List.set_cons_succ]
                refine plan_take (v := ?_) rfl (by rfl) ?_ ?_
                rotate_left
                · intro _ hSw; (try dsimp only at hSw); go_simp; (try with_reducible rfl)
                simp only [List.setIfInBounds_toArray, List.set_cons_zero, List.set_cons_succ]
                refine plan_take (v := ?_) rfl (by rfl) ?_ ?_
                rotate_left
                · intro _ hSw; (try dsimp only at hSw); go_simp; (try with_reducible rfl)
                simp only [List.setIfInBounds_toArray, List.set_cons_zero, List.set_cons_succ]
                refine plan_take (v := ?_) rfl (by rfl) ?_ ?_
                rotate_left
                · intro _ hSw; (try dsimp only at hSw); go_simp; (try with_reducible rfl)
                simp only [List.setIfInBounds_toArray, List.set_cons_zero, List.set_cons_succ]
                refine plan_take (v := ?_) rfl (by rfl) ?_ ?_
                rotate_left
                · intro _ hSw; (try dsimp only at hSw); go_simp; (try with_reducible rfl)
                simp only [List.setIfInBounds_toArray, List.set_cons_zero, List.set_cons_succ]
                refine plan_take (v := ?_) rfl (by rfl) ?_ ?_
                rotate_left
                · intro _ hSw; (try dsimp only at hSw); go_simp; (try with_reducible rfl)
                simp only [List.setIfInBounds_toArray, List.set_cons_zero, List.set_cons_succ]
                refine plan_take (v := ?_) rfl (by rfl) ?_ ?_
                rotate_left
                · intro _ hSw; (try dsimp only at hSw); go_simp; (try with_reducible rfl)
                simp only [List.setIfInBounds_toArray, List.set_cons_zero, List.set_cons_succ]
                refine plan_take (v := ?_) rfl (by rfl) ?_ ?_
                rotate_left
                · intro _ hSw; (try dsimp only at hSw); have c1 := (HC.out _ hSw).1.2; go_simp; (try with_reducible rfl)
                simp only [List.setIfInBounds_toArray, List.set_cons_zero, List.set_cons_succ]
                refine plan_take (v := ?_) rfl (by rfl) ?_ ?_
                rotate_left
                · intro _ hSw; (try dsimp only at hSw); go_simp; (try with_reducible rfl)
                simp only [List.setIfInBounds_toArray, List.set_cons_zero, List.set_cons_succ]
                refine plan_take (v := ?_) rfl (by rfl) ?_ ?_
                rotate_left
                · intro _ hSw; (try dsimp only at hSw); go_simp; (try with_reducible rfl)
                simp only [List.setIfInBounds_toArray, List.set_cons_zero, List.set_cons_succ]
                refine plan_take (v := ?_) rfl (by rfl) ?_ ?_
                rotate_left
                · intro _ hSw; (try dsimp only at hSw); go_simp; (try with_reducible rfl)
                simp only [List.setIfInBounds_toArray, List.set_cons_zero, List.set_cons_succ]
                refine plan_take (v := ?_) rfl (by rfl) ?_ ?_
                rotate_left
                · intro _ hSw; (try dsimp only at hSw); go_simp; (try with_reducible rfl)
                simp only [List.setIfInBounds_toArray, List.set_cons_zero, List.set_cons_succ]
                refine plan_take (v := ?_) rfl (by rfl) ?_ ?_
                rotate_left
                · intro _ hSw; (try dsimp only at hSw); have c1 := (HC.out _ hSw).2.2; go_simp; (try with_reducible rfl)
                simp only [List.setIfInBounds_toArray, List.set_cons_zero, List.set_cons_succ]
                refine plan_take (v := ?_) rfl (by rfl) ?_ ?_
                rotate_left
                · intro _ hSw; (try dsimp only at hSw); go_simp; (try with_reducible rfl)
                simp only [List.setIfInBounds_toArray, List.set_cons_zero, List.set_cons_succ]
                refine plan_take (v := ?_) rfl (by rfl) ?_ ?_
                rotate_left
                · intro _ hSw; (try dsimp only at hSw); go_simp; (try with_reducible rfl)
                simp only [List.setIfInBounds_toArray, List.set_cons_zero, List.set_cons_succ]
                refine plan_take (v := ?_) rfl (by rfl) ?_ ?_
                rotate_left
                · intro _ hSw; (try dsimp only at hSw); go_simp; (try with_reducible rfl)
                simp only [List.setIfInBounds_toArray, List.set_cons_zero, List.set_cons_succ]
                refine plan_take (v := ?_) rfl (by rfl) ?_ ?_
                rotate_left
                · intro _ hSw; (try dsimp only at hSw); go_simp; (try with_reducible rfl)
                simp only [List.setIfInBounds_toArray, List.set_cons_zero, List.set_cons_succ]
                refine plan_take (v := ?_) rfl (by rfl) ?_ ?_
                rotate_left
                · intro _ hSw; (try dsimp only at hSw); go_simp; (try with_reducible rfl)
                simp only [List.setIfInBounds_toArray, List.set_cons_zero, List.set_cons_succ]
                refine plan_take (v := ?_) rfl (by rfl) ?_ ?_
                rotate_left
                · intro _ hSw; (try dsimp only at hSw); go_simp; (try with_reducible rfl)
                simp only [List.setIfInBounds_toArray, List.set_cons_zero, List.set_cons_succ]
                refine plan_take (v := ?_) rfl (by rfl) ?_ ?_
                rotate_left
                · intro _ hSw; (try dsimp only at hSw); go_simp; (try with_reducible rfl)
                simp only [List.setIfInBounds_toArray, List.set_cons_zero, List.set_cons_succ]
                refine plan_take (v := ?_) rfl (by rfl) ?_ ?_
                rotate_left
                · intro _ hSw; (try dsimp only at hSw); have c1 := (HC.out _ hSw).1.2; go_simp; (try with_reducible rfl)
                simp only [List.setIfInBounds_toArray, List.set_cons_zero, List.set_cons_succ]
                refine plan_take (v := ?_) rfl (by rfl) ?_ ?_
                rotate_left
                · intro _ hSw; (try dsimp only at hSw); go_simp; (try with_reducible rfl)
                simp only [List.setIfInBounds_toArray, List.set_cons_zero, List.set_cons_succ]
                refine plan_take (v := ?_) rfl (by rfl) ?_ ?_
                rotate_left
                · intro _ hSw; (try dsimp only at hSw); go_simp; (try with_reducible rfl)
                simp only [List.setIfInBounds_toArray, List.set_cons_zero, List.set_cons_succ]
                refine plan_take (v := ?_) rfl (by rfl) ?_ ?_
                rotate_left
                · intro _ hSw; (try dsimp only at hSw); go_simp; (try with_reducible rfl)
                simp only [List.setIfInBounds_toArray, List.set_cons_zero, List.set_cons_succ]
                refine plan_take (v := ?_) rfl (by rfl) ?_ ?_
                rotate_left
                · intro _ hSw; (try dsimp only at hSw); go_simp; (try with_reducible rfl)
                simp only [List.setIfInBounds_toArray, List.set_cons_zero, List.set_cons_succ]
                refine plan_take (v := ?_) rfl (by rfl) ?_ ?_
                rotate_left
                · intro _ hSw; (try dsimp only at hSw); have c1 := (HC.out _ hSw).2.2; go_simp; (try with_reducible rfl)
                simp only [List.setIfInBounds_toArray, List.set_cons_zero, List.set_cons_succ]
                refine plan_take (v := ?_) rfl (by rfl) ?_ ?_
                rotate_left
                · intro _ hSw; (try dsimp only at hSw); go_simp; (try with_reducible rfl)
                simp only [List.setIfInBounds_toArray, List.set_cons_zero, List.set_cons_succ]
                refine plan_take (v := ?_) rfl (by rfl) ?_ ?_
                rotate_left
                · intro _ hSw; (try dsimp only at hSw); go_simp; (try with_reducible rfl)
                simp only [List.setIfInBounds_toArray, List.set_cons_zero, List.set_cons_succ]
                refine plan_take (v := ?_) rfl (by rfl) ?_ ?_
                rotate_left
                · intro _ hSw; (try dsimp only at hSw); go_simp; (try with_reducible rfl)
                simp only [List.setIfInBounds_toArray, List.set_cons_zero, List.set_cons_succ]
                refine plan_take (v := ?_) rfl (by rfl) ?_ ?_
                rotate_left
                · intro _ hSw; (try dsimp only at hSw); go_simp; (try with_reducible rfl)
                simp only [List.setIfInBounds_toArray, List.set_cons_zero, List.set_cons_succ]
                refine plan_take (v := ?_) rfl (by rfl) ?_ ?_
                rotate_left
                · intro _ hSw; (try dsimp only at hSw); go_simp; (try with_reducible rfl)
                simp only [List.setIfInBounds_toArray, List.set_cons_zero, List.set_cons_succ]
                refine plan_take (v := ?_) rfl (by rfl) ?_ ?_
                rotate_left
                · intro _ hSw; (try dsimp only at hSw); go_simp; (try with_reducible rfl)
                simp only [List.setIfInBounds_toArray, List.set_cons_zero, List.set_cons_succ]
                refine plan_take (v := ?_) rfl (by rfl) ?_ ?_
                rotate_left
                · intro _ hSw; (try dsimp only at hSw); have c1 := (HC.out _ hSw).1.1; go_simp; (try with_reducible rfl)
                simp only [List.setIfInBounds_toArray, List.set_cons_zero, List.set_cons_succ]
                refine plan_take (v := ?_) rfl (by rfl) ?_ ?_
                rotate_left
                · intro _ hSw; (try dsimp only at hSw); go_simp; (try with_reducible rfl)
                simp only [List.setIfInBounds_toArray, List.set_cons_zero, List.set_cons_succ]
                refine plan_take (v := ?_) rfl (by rfl) ?_ ?_
                rotate_left
                · intro _ hSw; (try dsimp only at hSw); go_simp; (try with_reducible rfl)
                simp only [List.setIfInBounds_toArray, List.set_cons_zero, List.set_cons_succ]
                refine plan_take (v := ?_) rfl (by rfl) ?_ ?_
                rotate_left
                · intro _ hSw; (try dsimp only at hSw); go_simp; (try with_reducible rfl)
                simp only [List.setIfInBounds_toArray, List.set_cons_zero, List.set_cons_succ]
                refine plan_take (v := ?_) rfl (by rfl) ?_ ?_
                rotate_left
                · intro _ hSw; (try dsimp only at hSw); go_simp; (try with_reducible rfl)
                simp only [List.setIfInBounds_toArray, List.set_cons_zero, List.set_cons_succ]
                refine plan_take (v := ?_) rfl (by rfl) ?_ ?_
                rotate_left
                · intro _ hSw; (try dsimp only at hSw); have c1 := (HC.out _ hSw).2.1; go_simp; (try with_reducible rfl)
                simp only [List.setIfInBounds_toArray, List.set_cons_zero, List.set_cons_succ]
                refine plan_take (v := ?_) rfl (by rfl) ?_ ?_
                rotate_left
                · intro _ hSw; (try dsimp only at hSw); go_simp; (try with_reducible rfl)
                simp only [List.setIfInBounds_toArray, List.set_cons_zero, List.set_cons_succ]
                refine plan_take (v := ?_) rfl (by rfl) ?_ ?_
                rotate_left
                · intro _ hSw; (try dsimp only at hSw); go_simp; (try with_reducible rfl)
                simp only [List.setIfInBounds_toArray, List.set_cons_zero, List.set_cons_succ]
                refine plan_take (v := ?_) rfl (by rfl) ?_ ?_
                rotate_left
                · intro _ hSw; (try dsimp only at hSw); go_simp; (try with_reducible rfl)
                simp only [List.setIfInBounds_toArray, List.set_cons_zero, List.set_cons_succ]
                refine plan_take (v := ?_) rfl (by rfl) ?_ ?_
                rotate_left
                · intro _ hSw; (try dsimp only at hSw); go_simp; (try with_reducible rfl)
                simp only [List.setIfInBounds_toArray, List.set_cons_zero, List.set_cons_succ]
                (refine hPE _ _ ?_; simp only [List.drop_succ_cons, List.drop_zero]; clear hPE PE)
                go_wp2_with fail
                go_roundw
                case rel => exact ⟨i1, (j : Int), rfl, congrArg (Value.int .i64) hw1, by have := HLT.out; have := HI1.out; omega, Lib.hid (by rw [← HI1.out]; exact HF.out), HI2⟩
                case measure => exact meas_up hw1 HI1.out HLT.out
            · have p3 : (y2 == z2) = false := beq_eq_false_iff_ne.2 he
              have HF := Lib.hid (first_old HA.out (by rw [HY.out, HZ.out]; unfold ltH; dsimp only; omega))
              clear hp hc he
              go_wp2_with fail
              refine wp_region_plan2 (fun W => Sl W (some ad) (rowC hdC rs)) 49 [(0, true), (1, true), (2, true), (3, true), (4, true), (5, true), (6, true), (7, true), (8, true), (9, true), (10, true), (11, true), (12, true), (13, true), (14, true), (15, true), (16, true), (17, true), (18, true), (19, true), (20, true), (21, true), (22, true), (23, true), (24, true), (25, true), (26, true), (27, true), (28, true), (29, true), (30, true), (31, true), (32, true), (33, true), (34, true), (35, true), (36, true), (37, true), (38, true), (39, true), (40, true), (41, true), (42, true), (43, true), (44, true), (45, true), (46, true), (47, true), (48, true)] (by kernel_rfl) (by kernel_rfl) (fun _ _ d _ _ h => by cases d <;> exact h) (by decide) (by simp only [List.map_cons, List.map_nil, Array.getD_eq_getD_getElem?, List.getElem?_toArray, List.getElem?_cons_zero, List.getElem?_cons_succ, Option.getD_some]; rfl) (by simp only [List.map_cons, List.map_nil]; rfl) (HS.out.below HI2.out) (fun PE hPE => ?_)
              refine plan_take (v := ?_) rfl (by rfl) ?_ ?_
              rotate_left
              · intro _ hSw; (try dsimp only at hSw); go_simp; (try with_reducible rfl)
              simp only [List.setIfInBounds_toArray, List.set_cons_zero, List.set_cons_succ]
              refine plan_take (v := ?_) rfl (by rfl) ?_ ?_
              rotate_left
              · intro _ hSw; (try dsimp only at hSw); go_simp; (try with_reducible rfl)
              simp only [List.setIfInBounds_toArray, List.set_cons_zero, List.set_cons_succ]
              refine plan_take (v := ?_) rfl (by rfl) ?_ ?_
              rotate_left
              · intro _ hSw; (try dsimp only at hSw); go_simp; (try with_reducible rfl)
              simp only [List.setIfInBounds_toArray, List.set_cons_zero, List.set_cons_succ]
              refine plan_take (v := ?_) rfl (by rfl) ?_ ?_
              rotate_left
              · intro _ hSw; (try dsimp only at hSw); go_simp; (try with_reducible rfl)
              simp only [List.setIfInBounds_toArray, List.set_cons_zero, List.set_cons_succ]
              refine plan_take (v := ?_) rfl (by rfl) ?_ ?_
              rotate_left
              · intro _ hSw; (try dsimp only at hSw); have c1 := (HC.out _ hSw).1.2; go_simp; (try with_reducible rfl)
              simp only [List.setIfInBounds_toArray, List.set_cons_zero, List.set_cons_succ]
              refine plan_take (v := ?_) rfl (by rfl) ?_ ?_
              rotate_left
              · intro _ hSw; (try dsimp only at hSw); go_simp; (try with_reducible rfl)
              simp only [List.setIfInBounds_toArray, List.set_cons_zero, List.set_cons_succ]
              refine plan_take (v := ?_) rfl (by rfl) ?_ ?_
              rotate_left
              · intro _ hSw; (try dsimp only at hSw); go_simp; (try with_reducible rfl)
              simp only [List.setIfInBounds_toArray, List.set_cons_zero, List.set_cons_succ]
              refine plan_take (v := ?_) rfl (by rfl) ?_ ?_
              rotate_left
              · intro _ hSw; (try dsimp only at hSw); go_simp; (try with_reducible rfl)
              simp only [List.setIfInBounds_toArray, List.set_cons_zero, List.set_cons_succ]
              refine plan_take (v := ?_) rfl (by rfl) ?_ ?_
              rotate_left
              · intro _ hSw; (try dsimp only at hSw); go_simp; (try with_reducible rfl)
              simp only [List.setIfInBounds_toArray, List.set_cons_zero, List.set_cons_succ]
              refine plan_take (v := ?_) rfl (by rfl) ?_ ?_
              rotate_left
              · intro _ hSw; (try dsimp only at hSw); go_simp; (try with_reducible rfl)
              simp only [List.setIfInBounds_toArray, List.set_cons_zero, List.set_cons_succ]
              refine plan_take (v := ?_) rfl (by rfl) ?_ ?_
              rotate_left
              · intro _ hSw; (try dsimp only at hSw); go_simp; (try with_reducible rfl)
              simp only [List.setIfInBounds_toArray, List.set_cons_zero, List.set_cons_succ]
              refine plan_take (v := ?_) rfl (by rfl) ?_ ?_
              rotate_left
              · intro _ hSw; (try dsimp only at hSw); go_simp; (try with_reducible rfl)
              simp only [List.setIfInBounds_toArray, List.set_cons_zero, List.set_cons_succ]
              refine plan_take (v := ?_) rfl (by rfl) ?_ ?_
              rotate_left
              · intro _ hSw; (try dsimp only at hSw); go_simp; (try with_reducible rfl)
              simp only [List.setIfInBounds_toArray, List.set_cons_zero, List.set_cons_succ]
              refine plan_take (v := ?_) rfl (by rfl) ?_ ?_
              rotate_left
              · intro _ hSw; (try dsimp only at hSw); go_simp; (try with_reducible rfl)
              simp only [List.setIfInBounds_toArray, List.set_cons_zero, List.set_cons_succ]
              refine plan_take (v := ?_) rfl (by rfl) ?_ ?_
              rotate_left
              · intro _ hSw; (try dsimp only at hSw); have c1 := (HC.out _ hSw).1.2; go_simp; (try with_reducible rfl)
              simp only [List.setIfInBounds_toArray, List.set_cons_zero, List.set_cons_succ]
              refine plan_take (v := ?_) rfl (by rfl) ?_ ?_
              rotate_left
              · intro _ hSw; (try dsimp only at hSw); go_simp; (try with_reducible rfl)
              simp only [List.setIfInBounds_toArray, List.set_cons_zero, List.set_cons_succ]
              refine plan_take (v := ?_) rfl (by rfl) ?_ ?_
              rotate_left
              · intro _ hSw; (try dsimp only at hSw); go_simp; (try with_reducible rfl)
              simp only [List.setIfInBounds_toArray, List.set_cons_zero, List.set_cons_succ]
              refine plan_take (v := ?_) rfl (by rfl) ?_ ?_
              rotate_left
              · intro _ hSw; (try dsimp only at hSw); go_simp; (try with_reducible rfl)
              simp only [List.setIfInBounds_toArray, List.set_cons_zero, List.set_cons_succ]
              refine plan_take (v := ?_) rfl (by rfl) ?_ ?_
              rotate_left
              · intro _ hSw; (try dsimp only at hSw); go_simp; (try with_reducible rfl)
              simp only [List.setIfInBounds_toArray, List.set_cons_zero, List.set_cons_succ]
              refine plan_take (v := ?_) rfl (by rfl) ?_ ?_
              rotate_left
              · intro _ hSw; (try dsimp only at hSw); have c1 := (HC.out _ hSw).2.2; go_simp; (try with_reducible rfl)
              simp only [List.setIfInBounds_toArray, List.set_cons_zero, List.set_cons_succ]
              refine plan_take (v := ?_) rfl (by rfl) ?_ ?_
              rotate_left
              · intro _ hSw; (try dsimp only at hSw); go_simp; (try with_reducible rfl)
              simp only [List.setIfInBounds_toArray, List.set_cons_zero, List.set_cons_succ]
              refine plan_take (v := ?_) rfl (by rfl) ?_ ?_
              rotate_left
              · intro _ hSw; (try dsimp only at hSw); go_simp; (try with_reducible rfl)
              simp only [List.setIfInBounds_toArray, List.set_cons_zero, List.set_cons_succ]
              refine plan_take (v := ?_) rfl (by rfl) ?_ ?_
              rotate_left
              · intro _ hSw; (try dsimp only at hSw); go_simp; (try with_reducible rfl)
              simp only [List.setIfInBounds_toArray, List.set_cons_zero, List.set_cons_succ]
              refine plan_take (v := ?_) rfl (by rfl) ?_ ?_
              rotate_left
              · intro _ hSw; (try dsimp only at hSw); go_simp; (try with_reducible rfl)
              simp only [List.setIfInBounds_toArray, List.set_cons_zero, List.set_cons_succ]
              refine plan_take (v := ?_) rfl (by rfl) ?_ ?_
              rotate_left
              · intro _ hSw; (try dsimp only at hSw); go_simp; (try with_reducible rfl)
              simp only [List.setIfInBounds_toArray, List.set_cons_zero, List.set_cons_succ]
              refine plan_take (v := ?_) rfl (by rfl) ?_ ?_
              rotate_left
              · intro _ hSw; (try dsimp only at hSw); go_simp; (try with_reducible rfl)
              simp only [List.setIfInBounds_toArray, List.set_cons_zero, List.set_cons_succ]
              refine plan_take (v := ?_) rfl (by rfl) ?_ ?_
              rotate_left
              · intro _ hSw; (try dsimp only at hSw); go_simp; (try with_reducible rfl)
              simp only [List.setIfInBounds_toArray, List.set_cons_zero, List.set_cons_succ]
              refine plan_take (v := ?_) rfl (by rfl) ?_ ?_
              rotate_left
              · intro _ hSw; (try dsimp only at hSw); have c1 := (HC.out _ hSw).1.2; go_simp; (try with_reducible rfl)
              simp only [List.setIfInBounds_toArray, List.set_cons_zero, List.set_cons_succ]
              refine plan_take (v := ?_) rfl (by rfl) ?_ ?_
              rotate_left
              · intro _ hSw; (try dsimp only at hSw); go_simp; (try with_reducible rfl)
              simp only [List.setIfInBounds_toArray, List.set_cons_zero, List.set_cons_succ]
              refine plan_take (v := ?_) rfl (by rfl) ?_ ?_
              rotate_left
              · intro _ hSw; (try dsimp only at hSw); go_simp; (try with_reducible rfl)
              simp only [List.setIfInBounds_toArray, List.set_cons_zero, List.set_cons_succ]
              refine plan_take (v := ?_) rfl (by rfl) ?_ ?_
              rotate_left
              · intro _ hSw; (try dsimp only at hSw); go_simp; (try with_reducible rfl)
              simp only [List.setIfInBounds_toArray, List.set_cons_zero, List.set_cons_succ]
              refine plan_take (v := ?_) rfl (by rfl) ?_ ?_
              rotate_left
              · intro _ hSw; (try dsimp only at hSw); go_simp; (try with_reducible rfl)
              simp only [List.setIfInBounds_toArray, List.set_cons_zero, List.set_cons_succ]
              refine plan_take (v := ?_) rfl (by rfl) ?_ ?_
              rotate_left
              · intro _ hSw; (try dsimp only at hSw); have c1 := (HC.out _ hSw).2.2; go_simp; (try with_reducible rfl)
              simp only [List.setIfInBounds_toArray, List.set_cons_zero, List.set_cons_succ]
              refine plan_take (v := ?_) rfl (by rfl) ?_ ?_
              rotate_left
              · intro _ hSw; (try dsimp only at hSw); go_simp; (try with_reducible rfl)
              simp only [List.setIfInBounds_toArray, List.set_cons_zero, List.set_cons_succ]
              refine plan_take (v := ?_) rfl (by rfl) ?_ ?_
              rotate_left
              · intro _ hSw; (try dsimp only at hSw); go_simp; (try with_reducible rfl)
              simp only [List.setIfInBounds_toArray, List.set_cons_zero, List.set_cons_succ]
              refine plan_pass rfl (by rfl) ?_
              simp only [List.setIfInBounds_toArray, List.set_cons_zero, List.set_cons_succ]
              refine plan_pass rfl (by rfl) ?_
              simp only [List.setIfInBounds_toArray, List.set_cons_zero, List.set_cons_succ]
              refine plan_pass rfl (by rfl) ?_
              simp only [List.setIfInBounds_toArray, List.set_cons_zero, List.set_cons_succ]
              refine plan_pass rfl (by rfl) ?_
              simp only [List.setIfInBounds_toArray, List.set_cons_zero, List.set_cons_succ]
              refine plan_pass rfl (by rfl) ?_
              simp only [List.setIfInBounds_toArray, List.set_cons_zero, List.set_cons_succ]
              refine plan_pass rfl (by rfl) ?_
              simp only [List.setIfInBounds_toArray, List.set_cons_zero, List.set_cons_succ]
              refine plan_pass rfl (by rfl) ?_
              simp only [List.setIfInBounds_toArray, List.set_cons_zero, List.set_cons_succ]
              refine plan_pass rfl (by rfl) ?_
              simp only [List.setIfInBounds_toArray, List.set_cons_zero, List.set_cons_succ]
              refine plan_pass rfl (by rfl) ?_
              simp only [List.setIfInBounds_toArray, List.set_cons_zero, List.set_cons_succ]
              refine plan_pass rfl (by rfl) ?_
              simp only [List.setIfInBounds_toArray, List.set_cons_zero, List.set_cons_succ]
              refine plan_pass rfl (by rfl) ?_
              simp only [List.setIfInBounds_toArray, List.set_cons_zero, List.set_cons_succ]
              refine plan_take (v := ?_) rfl (by rfl) ?_ ?_
              rotate_left
              · intro _ hSw; (try dsimp only at hSw); go_simp; (try with_reducible rfl)
              simp only [List.setIfInBounds_toArray, List.set_cons_zero, List.set_cons_succ]
              refine plan_take (v := ?_) rfl (by rfl) ?_ ?_
              rotate_left
              · intro _ hSw; (try dsimp only at hSw); go_simp; (try with_reducible rfl)
              simp only [List.setIfInBounds_toArray, List.set_cons_zero, List.set_cons_succ]
              refine plan_take (v := ?_) rfl (by rfl) ?_ ?_
              rotate_left
              · intro _ hSw; (try dsimp only at hSw); go_simp; (try with_reducible rfl)
              simp only [List.setIfInBounds_toArray, List.set_cons_zero, List.set_cons_succ]
              (refine hPE _ _ ?_; simp only [List.drop_succ_cons, List.drop_zero]; clear hPE PE)
              go_wp2_with fail
              go_roundw
              case rel => exact ⟨i1, (j : Int), rfl, congrArg (Value.int .i64) hw1, by have := HLT.out; have := HI1.out; omega, Lib.hid (by rw [← HI1.out]; exact HF.out), HI2⟩
              case measure => exact meas_up hw1 HI1.out HLT.out
      · have p1 : decide (0 < y2) = false := decide_eq_false hp
        have HC : Hid (∀ W, Sl W (some ad) (rowC hdC rs) → (W.cell? (ad.add (i * 2)) = some (.int .i64 y1) ∧ W.cell? ⟨(ad.add (i * 2)).block, (ad.add (i * 2)).off + 1, none⟩ = some (.int .i64 y2)) ∧ True) := Lib.hid fun W hW => ⟨HCI.out W hW, trivial⟩
        have HF := Lib.hid (first_none HA.out (by rw [HY.out]; exact hp))
        clear hp
        go_wp2_with fail
        refine wp_region_plan2 (fun W => Sl W (some ad) (rowC hdC rs)) 49 [(0, true), (1, true), (2, true), (3, true), (4, true), (5, true), (6, true), (7, true), (8, true), (9, true), (10, true), (11, true), (12, true), (13, true), (14, true), (15, true), (16, true), (17, true), (18, true), (19, true), (20, true), (21, true), (22, true), (23, true), (24, true), (25, true), (26, true), (27, true), (28, true), (29, true), (30, true), (31, true), (32, true), (33, true), (34, true), (35, true), (36, true), (37, true), (38, true), (39, true), (40, true), (41, true), (42, true), (43, true), (44, true), (45, true), (46, true), (47, true), (48, true)] (by kernel_rfl) (by kernel_rfl) (fun _ _ d _ _ h => by cases d <;> exact h) (by decide) (by simp only [List.map_cons, List.map_nil, Array.getD_eq_getD_getElem?, List.getElem?_toArray, List.getElem?_cons_zero, List.getElem?_cons_succ, Option.getD_some]; rfl) (by simp only [List.map_cons, List.map_nil]; rfl) (HS.out.below HI2.out) (fun PE hPE => ?_)
        refine plan_take (v := ?_) rfl (by rfl) ?_ ?_
        rotate_left
        · intro _ hSw; (try dsimp only at hSw); go_simp; (try with_reducible rfl)
        simp only [List.setIfInBounds_toArray, List.set_cons_zero, List.set_cons_succ]
        refine plan_take (v := ?_) rfl (by rfl) ?_ ?_
        rotate_left
        · intro _ hSw; (try dsimp only at hSw); go_simp; (try with_reducible rfl)
        simp only [List.setIfInBounds_toArray, List.set_cons_zero, List.set_cons_succ]
        refine plan_take (v := ?_) rfl (by rfl) ?_ ?_
        rotate_left
        · intro _ hSw; (try dsimp only at hSw); go_simp; (try with_reducible rfl)
        simp only [List.setIfInBounds_toArray, List.set_cons_zero, List.set_cons_succ]
        refine plan_take (v := ?_) rfl (by rfl) ?_ ?_
        rotate_left
        · intro _ hSw; (try dsimp only at hSw); go_simp; (try with_reducible rfl)
        simp only [List.setIfInBounds_toArray, List.set_cons_zero, List.set_cons_succ]
        refine plan_take (v := ?_) rfl (by rfl) ?_ ?_
        rotate_left
        · intro _ hSw; (try dsimp only at hSw); have c1 := (HC.out _ hSw).1.2; go_simp; (try with_reducible rfl)
        simp only [List.setIfInBounds_toArray, List.set_cons_zero, List.set_cons_succ]
        refine plan_take (v := ?_) rfl (by rfl) ?_ ?_
        rotate_left
        · intro _ hSw; (try dsimp only at hSw); go_simp; (try with_reducible rfl)
        simp only [List.setIfInBounds_toArray, List.set_cons_zero, List.set_cons_succ]
        refine plan_take (v := ?_) rfl (by rfl) ?_ ?_
        rotate_left
        · intro _ hSw; (try dsimp only at hSw); go_simp; (try with_reducible rfl)
        simp only [List.setIfInBounds_toArray, List.set_cons_zero, List.set_cons_succ]
        refine plan_pass rfl (by rfl) ?_
        simp only [List.setIfInBounds_toArray, List.set_cons_zero, List.set_cons_succ]
        refine plan_pass rfl (by rfl) ?_
        simp only [List.setIfInBounds_toArray, List.set_cons_zero, List.set_cons_succ]
        refine plan_pass rfl (by rfl) ?_
        simp only [List.setIfInBounds_toArray, List.set_cons_zero, List.set_cons_succ]
        refine plan_pass rfl (by rfl) ?_
        simp only [List.setIfInBounds_toArray, List.set_cons_zero, List.set_cons_succ]
        refine plan_pass rfl (by rfl) ?_
        simp only [List.setIfInBounds_toArray, List.set_cons_zero, List.set_cons_succ]
        refine plan_pass rfl (by rfl) ?_
        simp only [List.setIfInBounds_toArray, List.set_cons_zero, List.set_cons_succ]
        refine plan_pass rfl (by rfl) ?_
        simp only [List.setIfInBounds_toArray, List.set_cons_zero, List.set_cons_succ]
        refine plan_pass rfl (by rfl) ?_
        simp only [List.setIfInBounds_toArray, List.set_cons_zero, List.set_cons_succ]
        refine plan_pass rfl (by rfl) ?_
        simp only [List.setIfInBounds_toArray, List.set_cons_zero, List.set_cons_succ]
        refine plan_pass rfl (by rfl) ?_
        simp only [List.setIfInBounds_toArray, List.set_cons_zero, List.set_cons_succ]
        refine plan_pass rfl (by rfl) ?_
        simp only [List.setIfInBounds_toArray, List.set_cons_zero, List.set_cons_succ]
        refine plan_pass rfl (by rfl) ?_
        simp only [List.setIfInBounds_toArray, List.set_cons_zero, List.set_cons_succ]
        refine plan_pass rfl (by rfl) ?_
        simp only [List.setIfInBounds_toArray, List.set_cons_zero, List.set_cons_succ]
        refine plan_pass rfl (by rfl) ?_
        simp only [List.setIfInBounds_toArray, List.set_cons_zero, List.set_cons_succ]
        refine plan_pass rfl (by rfl) ?_
        simp only [List.setIfInBounds_toArray, List.set_cons_zero, List.set_cons_succ]
        refine plan_pass rfl (by rfl) ?_
        simp only [List.setIfInBounds_toArray, List.set_cons_zero, List.set_cons_succ]
        refine plan_pass rfl (by rfl) ?_
        simp only [List.setIfInBounds_toArray, List.set_cons_zero, List.set_cons_succ]
        refine plan_pass rfl (by rfl) ?_
        simp only [List.setIfInBounds_toArray, List.set_cons_zero, List.set_cons_succ]
        refine plan_pass rfl (by rfl) ?_
        simp only [List.setIfInBounds_toArray, List.set_cons_zero, List.set_cons_succ]
        refine plan_pass rfl (by rfl) ?_
        simp only [List.setIfInBounds_toArray, List.set_cons_zero, List.set_cons_succ]
        refine plan_pass rfl (by rfl) ?_
        simp only [List.setIfInBounds_toArray, List.set_cons_zero, List.set_cons_succ]
        refine plan_pass rfl (by rfl) ?_
        simp only [List.setIfInBounds_toArray, List.set_cons_zero, List.set_cons_succ]
        refine plan_pass rfl (by rfl) ?_
        simp only [List.setIfInBounds_toArray, List.set_cons_zero, List.set_cons_succ]
        refine plan_pass rfl (by rfl) ?_
        simp only [List.setIfInBounds_toArray, List.set_cons_zero, List.set_cons_succ]
        refine plan_pass rfl (by rfl) ?_
        simp only [List.setIfInBounds_toArray, List.set_cons_zero, List.set_cons_succ]
        refine plan_pass rfl (by rfl) ?_
        simp only [List.setIfInBounds_toArray, List.set_cons_zero, List.set_cons_succ]
        refine plan_pass rfl (by rfl) ?_
        simp only [List.setIfInBounds_toArray, List.set_cons_zero, List.set_cons_succ]
        refine plan_pass rfl (by rfl) ?_
        simp only [List.setIfInBounds_toArray, List.set_cons_zero, List.set_cons_succ]
        refine plan_pass rfl (by rfl) ?_
        simp only [List.setIfInBounds_toArray, List.set_cons_zero, List.set_cons_succ]
        refine plan_pass rfl (by rfl) ?_
        simp only [List.setIfInBounds_toArray, List.set_cons_zero, List.set_cons_succ]
        refine plan_pass rfl (by rfl) ?_
        simp only [List.setIfInBounds_toArray, List.set_cons_zero, List.set_cons_succ]
        refine plan_pass rfl (by rfl) ?_
        simp only [List.setIfInBounds_toArray, List.set_cons_zero, List.set_cons_succ]
        refine plan_pass rfl (by rfl) ?_
        simp only [List.setIfInBounds_toArray, List.set_cons_zero, List.set_cons_succ]
        refine plan_pass rfl (by rfl) ?_
        simp only [List.setIfInBounds_toArray, List.set_cons_zero, List.set_cons_succ]
        refine plan_pass rfl (by rfl) ?_
        simp only [List.setIfInBounds_toArray, List.set_cons_zero, List.set_cons_succ]
        refine plan_pass rfl (by rfl) ?_
        simp only [List.setIfInBounds_toArray, List.set_cons_zero, List.set_cons_succ]
        refine plan_pass rfl (by rfl) ?_
        simp only [List.setIfInBounds_toArray, List.set_cons_zero, List.set_cons_succ]
        refine plan_pass rfl (by rfl) ?_
        simp only [List.setIfInBounds_toArray, List.set_cons_zero, List.set_cons_succ]
        refine plan_pass rfl (by rfl) ?_
        simp only [List.setIfInBounds_toArray, List.set_cons_zero, List.set_cons_succ]
        refine plan_pass rfl (by rfl) ?_
        simp only [List.setIfInBounds_toArray, List.set_cons_zero, List.set_cons_succ]
        refine plan_pass rfl (by rfl) ?_
        simp only [List.setIfInBounds_toArray, List.set_cons_zero, List.set_cons_succ]
        refine plan_take (v := ?_) rfl (by rfl) ?_ ?_
        rotate_left
        · intro _ hSw; (try dsimp only at hSw); go_simp; (try with_reducible rfl)
        simp only [List.setIfInBounds_toArray, List.set_cons_zero, List.set_cons_succ]
        (refine hPE _ _ ?_; simp only [List.drop_succ_cons, List.drop_zero]; clear hPE PE)
        go_wp2_with fail
        go_roundw
        case rel => exact ⟨i1, a, rfl, congrArg (Value.int .i64) hw1, by have := HLT.out; have := HI1.out; omega, Lib.hid (by rw [← HI1.out]; exact HF.out), HI2⟩
        case measure => exact meas_up hw1 HI1.out HLT.out
    · have hli : ¬ (i : Int) < (n : Int) := by omega
      have HE := Lib.hid (show FirstAt rs n a by have h1 := HA.out; have h2 : i = n := by omega
                                                 rw [h2] at h1; exact h1)
      clear hi hlt HA
      go_wp2_with fail
      go_ret
      exact ⟨a, rfl, HE.out, HI.out⟩
end Go.Proofs.YtklelheejopfmaaGreat
