/- The kit's SameOps, at equal operations. -/
import Derived.Test.YthcbidbhkikhmaaDoorLaws31
namespace Go.Proofs.YthcbidbhkikhmaaDoor
open Go Go.RowKit
def BsSl (W : World) : List OpN → List Value → Prop
  | [], [] => True
  | o :: os, v :: vs => (∃ A c, v = .slice A o.b.length c ∧ Sl W A (o.b.map byteV)) ∧ BsSl W os vs
  | _, _ => False
theorem BsSl.below {W W' : World} (hb : Below W.heap.size W W') : ∀ {os : List OpN} {vs : List Value}, BsSl W os vs → BsSl W' os vs
  | [], [], _ => trivial
  | _ :: os, _ :: vs, h => ⟨by obtain ⟨A, c, e, hs⟩ := h.1; exact ⟨A, c, e, hs.below hb⟩, BsSl.below hb h.2⟩
  | [], _ :: _, h => h.elim
  | _ :: _, [], h => h.elim
theorem BsSl.of_own {W : World} {base : Nat} : ∀ {os : List OpN} {vs : List Value}, OwnBs W base os vs → BsSl W os vs
  | [], [], _ => trivial
  | _ :: os, _ :: vs, h => ⟨by obtain ⟨A, c, e, hs⟩ := own_sl h.1; exact ⟨A, c, e, hs⟩, BsSl.of_own h.2⟩
  | [], _ :: _, h => h.elim
  | _ :: _, [], h => h.elim
theorem BsSl.at {W : World} : ∀ {os : List OpN} {vs : List Value} (_ : BsSl W os vs) (j : Nat) (hj : j < os.length), ∃ A c, (∀ i, i < 4 → (cellsOf os vs)[4 * j + i]? = #[Value.string (bs os[j].w), .int .i64 (os[j].id : Int), .int .i64 (os[j].n : Int), .slice A os[j].b.length c][i]?) ∧ Sl W A (os[j].b.map byteV)
  | [], [], _, j, hj => absurd hj (Nat.not_lt_zero _)
  | o :: os, v :: vs, h, 0, _ => by
    obtain ⟨A, c, rfl, hs⟩ := h.1
    refine ⟨A, c, fun i hi => ?_, hs⟩
    have : i = 0 ∨ i = 1 ∨ i = 2 ∨ i = 3 := by omega
    rcases this with rfl | rfl | rfl | rfl <;> rfl
  | o :: os, v :: vs, h, j + 1, hj => by
    obtain ⟨A, c, h1, hs⟩ := BsSl.at h.2 j (Nat.lt_of_succ_lt_succ hj)
    refine ⟨A, c, fun i hi => ?_, hs⟩
    rw [show 4 * (j + 1) + i = (4 * j + i) + 4 by omega]
    exact h1 i hi
  | [], _ :: _, h, _, _ => h.elim
  | _ :: _, [], h, _, _ => h.elim
/-- a slice that reads as these operations -/
def ReadOps (W : World) (v : Value) (os : List OpN) : Prop := ∃ A c vs, v = .slice A os.length c ∧ Sl W A (cellsOf os vs) ∧ BsSl W os vs
theorem ReadOps.below {W W' : World} {v : Value} {os : List OpN} (h : ReadOps W v os) (hb : Below W.heap.size W W') : ReadOps W' v os := by
  obtain ⟨A, c, vs, e, h1, h2⟩ := h
  exact ⟨A, c, vs, e, h1.below hb, h2.below hb⟩
theorem ReadOps.of_row {W : World} {base : Nat} {v : Value} {os : List OpN} (h : OpsRow W base v os) : ReadOps W v os := by
  obtain ⟨vs, h1, h2⟩ := h
  rcases h1.2 with ⟨rfl, h0⟩ | ⟨g, cap, cur, rfl, hbg, hh, e1, e2, e3, e4⟩
  · obtain rfl : os = [] := List.eq_nil_of_length_eq_zero h0
    exact ⟨none, 0, vs, rfl, by cases vs <;> exact Sl.nil _ _, BsSl.of_own h2⟩
  · refine ⟨_, _, vs, rfl, ?_, BsSl.of_own h2⟩
    have := (Blk.sl (w := W) (g := g) (t := 24) (cs := cur) hh 0).take (os.length * 4)
    rw [List.drop_zero, e4] at this
    exact this
theorem addr_add0 (p : Addr) : p.add 0 = p := by unfold Addr.add; simp
theorem addr_addS (p : Addr) (i : Nat) (h : i ≠ 0) : p.add i = ⟨p.block, p.off + i, none⟩ := by unfold Addr.add; simp [h]
set_option maxRecDepth 100000 in
set_option maxHeartbeats 4000000 in
theorem same_ops (os : List OpN) (v1 v2 : Value) (w : World) (h1 : ReadOps w v1 os) (h2 : ReadOps w v2 os) (hsz : os.length ≤ 100000) : Calls Tryd.prog 21 #[v1, v2] w fun e w' => e = .returned (.bool true) ∧ Below w.heap.size w w' := by
  obtain ⟨A1, c1, vs1, rfl, hS1, hB1⟩ := h1
  obtain ⟨A2, c2, vs2, rfl, hS2, hB2⟩ := h2
  have HS1 := Lib.hid hS1; have HB1 := Lib.hid hB1; have HS2 := Lib.hid hS2; have HB2 := Lib.hid hB2
  clear hS1 hB1 hS2 hB2
  obtain ⟨n, hn⟩ : ∃ n, n = os.length := ⟨_, rfl⟩
  rw [← hn] at hsz ⊢
  have Hn := Lib.hid hn
  clear hn
  go_enter Tryd.func21, Tryd.ntmps21
  go_wp2_with fail
  go_loopg [5] n (fun g i => fun wr => ∃ (j : Nat), j + g = n ∧ i = .int .i64 (j : Int) ∧ Hid (Below w.heap.size w wr))
  case atStart => exact ⟨0, by omega, rfl, Lib.hid (Below.refl _ _)⟩
  case round =>
    obtain ⟨j, hj, rfl, HB⟩ := hrel
    cases gk with
    | zero =>
      obtain rfl : j = n := by omega
      have hlt : ¬ ((j : Int) < (j : Int)) := by omega
      go_wp2_with fail
      go_ret
      exact ⟨rfl, HB.out⟩
    | succ g =>
      have hlt : ((j : Int) < (n : Int)) := by omega
      have hjl : j < os.length := by rw [← Hn.out]; omega
      obtain ⟨B1, d1, hc1, hs1⟩ := (HB1.out.below HB.out).at j hjl
      obtain ⟨B2, d2, hc2, hs2⟩ := (HB2.out.below HB.out).at j hjl
      generalize os[j] = o at hc1 hs1 hc2 hs2
      obtain ⟨a1, rfl, hl1, _⟩ := HS1.out (4 * j) _ (hc1 0 (by decide))
      obtain ⟨a2, rfl, hl2, _⟩ := HS2.out (4 * j) _ (hc2 0 (by decide))
      have k1 : ∀ i, i < 4 → wr.cell? ((a1.add (4 * j)).add i) = #[Value.string (bs o.w), .int .i64 (o.id : Int), .int .i64 (o.n : Int), .slice B1 o.b.length d1][i]? := fun i hi => by
        cases hv : #[Value.string (bs o.w), .int .i64 (o.id : Int), .int .i64 (o.n : Int), .slice B1 o.b.length d1][i]? with
        | none => rw [Array.getElem?_eq_none_iff] at hv; simp at hv; omega
        | some v =>
          obtain ⟨ad, e, hl, hcell⟩ := (HS1.out.below HB.out) (4 * j + i) v ((hc1 i hi).trans hv)
          cases e
          rw [addr_add_add]; exact hcell
      have k2 : ∀ i, i < 4 → wr.cell? ((a2.add (4 * j)).add i) = #[Value.string (bs o.w), .int .i64 (o.id : Int), .int .i64 (o.n : Int), .slice B2 o.b.length d2][i]? := fun i hi => by
        cases hv : #[Value.string (bs o.w), .int .i64 (o.id : Int), .int .i64 (o.n : Int), .slice B2 o.b.length d2][i]? with
        | none => rw [Array.getElem?_eq_none_iff] at hv; simp at hv; omega
        | some v =>
          obtain ⟨ad, e, hl, hcell⟩ := (HS2.out.below HB.out) (4 * j + i) v ((hc2 i hi).trans hv)
          cases e
          rw [addr_add_add]; exact hcell
      have K1 := Lib.hid k1; have K2 := Lib.hid k2
      clear hc1 hc2 k1 k2
      go_wp2_with fail
      rw [Nat.mul_comm 4 j] at K1 K2
      refine wp_region_plan2 (fun w' => w'.cell? (a1.add (j * 4)) = some (.string (bs o.w)) ∧ w'.cell? ⟨(a1.add (j * 4)).block, (a1.add (j * 4)).off + 1, none⟩ = some (.int .i64 (o.id : Int)) ∧ w'.cell? ⟨(a1.add (j * 4)).block, (a1.add (j * 4)).off + 2, none⟩ = some (.int .i64 (o.n : Int)) ∧ w'.cell? ⟨(a1.add (j * 4)).block, (a1.add (j * 4)).off + 3, none⟩ = some (.slice B1 o.b.length d1) ∧ w'.cell? (a2.add (j * 4)) = some (.string (bs o.w)) ∧ w'.cell? ⟨(a2.add (j * 4)).block, (a2.add (j * 4)).off + 1, none⟩ = some (.int .i64 (o.id : Int)) ∧ w'.cell? ⟨(a2.add (j * 4)).block, (a2.add (j * 4)).off + 2, none⟩ = some (.int .i64 (o.n : Int)) ∧ w'.cell? ⟨(a2.add (j * 4)).block, (a2.add (j * 4)).off + 3, none⟩ = some (.slice B2 o.b.length d2)) 8 [(0, true), (1, true), (2, true), (3, true), (4, true), (5, true), (6, true), (7, true)] (by kernel_rfl) (by kernel_rfl) (fun _ _ d _ _ h => by cases d <;> exact h) (by decide) (by simp only [List.map_cons, List.map_nil, Array.getD_eq_getD_getElem?, List.getElem?_toArray, List.getElem?_cons_zero, List.getElem?_cons_succ, Option.getD_some]; rfl) (by simp only [List.map_cons, List.map_nil]; rfl) (⟨by have h := K1.out 0 (by decide); rw [addr_add0] at h; exact h, by have h := K1.out 1 (by decide); rw [addr_addS _ 1 (by decide)] at h; exact h, by have h := K1.out 2 (by decide); rw [addr_addS _ 2 (by decide)] at h; exact h, by have h := K1.out 3 (by decide); rw [addr_addS _ 3 (by decide)] at h; exact h, by have h := K2.out 0 (by decide); rw [addr_add0] at h; exact h, by have h := K2.out 1 (by decide); rw [addr_addS _ 1 (by decide)] at h; exact h, by have h := K2.out 2 (by decide); rw [addr_addS _ 2 (by decide)] at h; exact h, by have h := K2.out 3 (by decide); rw [addr_addS _ 3 (by decide)] at h; exact h⟩) (fun PE hPE => ?_)
      refine plan_take (v := ?_) rfl (by rfl) ?_ ?_
      rotate_left
      · intro _ hSw; (try dsimp only at hSw); go_simp; (try with_reducible rfl)
      simp only [List.setIfInBounds_toArray, List.set_cons_zero, List.set_cons_succ]
      refine plan_take (v := ?_) rfl (by rfl) ?_ ?_
      rotate_left
      · intro _ hSw; (try dsimp only at hSw); go_simp; (try with_reducible rfl)
      simp only [List.setIfInBounds_toArray, List.set_cons_zero, List.set_cons_succ]
      refine plan_take (v := ?_) rfl (by rfl) ?_ ?_
      rotate_left
      · intro _ hSw; (try dsimp only at hSw); go_simp; (try with_reducible rfl)
      simp only [List.setIfInBounds_toArray, List.set_cons_zero, List.set_cons_succ]
      refine plan_take (v := ?_) rfl (by rfl) ?_ ?_
      rotate_left
      · intro _ hSw; (try dsimp only at hSw); go_simp; (try with_reducible rfl)
      simp only [List.setIfInBounds_toArray, List.set_cons_zero, List.set_cons_succ]
      refine plan_take (v := ?_) rfl (by rfl) ?_ ?_
      rotate_left
      · intro _ hSw; (try dsimp only at hSw); go_simp; (try with_reducible rfl)
      simp only [List.setIfInBounds_toArray, List.set_cons_zero, List.set_cons_succ]
      refine plan_take (v := ?_) rfl (by rfl) ?_ ?_
      rotate_left
      · intro _ hSw; (try dsimp only at hSw); go_simp; (try with_reducible rfl)
      simp only [List.setIfInBounds_toArray, List.set_cons_zero, List.set_cons_succ]
      refine plan_take (v := ?_) rfl (by rfl) ?_ ?_
      rotate_left
      · intro _ hSw; (try dsimp only at hSw); go_simp; (try with_reducible rfl)
      simp only [List.setIfInBounds_toArray, List.set_cons_zero, List.set_cons_succ]
      refine plan_take (v := ?_) rfl (by rfl) ?_ ?_
      rotate_left
      · intro _ hSw; (try dsimp only at hSw); go_simp; (try with_reducible rfl)
      simp only [List.setIfInBounds_toArray, List.set_cons_zero, List.set_cons_succ]
      (refine hPE _ _ ?_; simp only [List.drop_succ_cons, List.drop_zero]; clear hPE PE)
      have HSO := Lib.hid (same_op o.w (o.id : Int) (o.n : Int) B1 d1 o.b o.w (o.id : Int) (o.n : Int) B2 d2 o.b wr.drew hs1.drew hs2.drew)
      rw [show sameR o.w (o.id : Int) (o.n : Int) o.b o.w (o.id : Int) (o.n : Int) o.b = true by simp [sameR]] at HSO
      go_wp2_with (go_at_call 20; refine HSO.out.mono ?_; rintro e w2 ⟨rfl, hb2⟩; have HB2' := Lib.hid (HB.out.drew.trans (hb2.mono HB.out.size)); clear hb2)
      go_roundg g
      case measure => omega
      case rel => exact ⟨j + 1, by omega, rfl, HB2'⟩
end Go.Proofs.YthcbidbhkikhmaaDoor
