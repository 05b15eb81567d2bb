/- Hps, Hpp -/
import Derived.Test.YtklelheejopfmaaGreatK09
namespace Go.Proofs.YtklelheejopfmaaGreat
open Go Go.RowKit
attribute [local go_sem] Oper.semAt_some
theorem HRow.put {w : World} {base g n cap : Nat} {xs : List Hd} (h : HRow w base (.slice (some ⟨g, 0, none⟩) n cap) xs) (hn : xs.length = n) (k : Nat) (hk : k < n) (a1 a2 : Int) :
    HRow ((w.setCell ⟨g, k * 2, none⟩ (.int .i64 a1)).setCell ⟨g, k * 2 + 1, none⟩ (.int .i64 a2)) base (.slice (some ⟨g, 0, none⟩) n cap) (xs.set k (a1, a2)) := by
  subst hn
  have h1 := row_set hdC_len h k hk 0 (by decide) (.int .i64 a1) (a1, xs[k].2) rfl
  have h2 := row_set hdC_len (xs := xs.set k (a1, xs[k].2)) h1 k (by simpa using hk) 1 (by decide) (.int .i64 a2) (a1, a2) (by simp [hdC])
  rw [List.set_set] at h2
  unfold HRow
  rw [List.length_set]
  exact h2
theorem HRow.set_frozen {w : World} {base g n cap : Nat} {xs : List Hd} (h : HRow w base (.slice (some ⟨g, 0, none⟩) n cap) xs) (hn : xs.length = n) (j : Nat) : w.frozen? ⟨g, j, none⟩ = false := by
  subst hn
  exact h.frozenAt j
set_option maxRecDepth 100000 in
theorem hold_Swap (g n cap base : Nat) (xs : List Hd) (w : World) (h : HRow w base (.slice (some ⟨g, 0, none⟩) n cap) xs) (hn : xs.length = n) (i k : Nat) (hi : i < n) (hk : k < n) :
    Calls Tryz.prog 123 #[.slice (some ⟨g, 0, none⟩) n cap, .int .i64 (i : Int), .int .i64 (k : Int)] w fun e w' => (∃ v, e = .returned v) ∧ HRow w' base (.slice (some ⟨g, 0, none⟩) n cap) (swapH xs i k) ∧ Turn (fun b => b = g) w w' := by
  obtain ⟨a, ha⟩ : ∃ a, hx xs i = a := ⟨_, rfl⟩
  obtain ⟨b, hb⟩ : ∃ b, hx xs k = b := ⟨_, rfl⟩
  have hsw : swapH xs i k = (xs.set i b).set k a := by unfold swapH; rw [ha, hb]
  rw [hsw]
  obtain ⟨a1, a2⟩ := a
  obtain ⟨b1, b2⟩ := b
  have hd : HRow w.drew base (.slice (some ⟨g, 0, none⟩) n cap) xs := h.below (Below.refl _ _).drew
  have c1 := (hd.cells hn i hi).1
  have c2 := (hd.cells hn i hi).2
  have c3 := (hd.cells hn k hk).1
  have c4 := (hd.cells hn k hk).2
  rw [ha] at c1 c2
  rw [hb] at c3 c4
  have d2 : w.cell? ⟨g, i * 2 + 1, none⟩ = _ := c2
  have d4 : w.cell? ⟨g, k * 2 + 1, none⟩ = _ := c4
  have d1 : w.cell? ⟨g, i * 2, none⟩ = _ := c1
  have d3 : w.cell? ⟨g, k * 2, none⟩ = _ := c3
  have e1 : w.frozen? ⟨g, i * 2, none⟩ = false := h.set_frozen hn _
  have e2 : w.frozen? ⟨g, i * 2 + 1, none⟩ = false := h.set_frozen hn _
  have e3 : w.frozen? ⟨g, k * 2, none⟩ = false := h.set_frozen hn _
  have e4 : w.frozen? ⟨g, k * 2 + 1, none⟩ = false := h.set_frozen hn _
  have hV : HRow ((w.setCell ⟨g, i * 2, none⟩ (.int .i64 b1)).setCell ⟨g, i * 2 + 1, none⟩ (.int .i64 b2)).drew base (.slice (some ⟨g, 0, none⟩) n cap) (xs.set i (b1, b2)) := hd.put hn i hi b1 b2
  have t0 : Turn (fun b => b = g) w w := Turn.refl _ _
  have t1 := t0.set (p := ⟨g, i * 2, none⟩) (Or.inl rfl) (.int .i64 b1)
  have t2 := t1.set (p := ⟨g, i * 2 + 1, none⟩) (Or.inl rfl) (.int .i64 b2)
  have HT := Lib.hid (t2.trans (Turn.of_below (Below.refl _ _).drew))
  have HV := Lib.hid hV
  have HN := Lib.hid hn
  have HI := Lib.hid hi
  have HK := Lib.hid hk
  clear t0 t1 t2 hV
  have i0 : ¬ (i : Int) < 0 := by omega
  have k0 : ¬ (k : Int) < 0 := by omega
  have i1 : (i : Int) < (n : Int) := by omega
  have k1 : (k : Int) < (n : Int) := by omega
  clear h ha hb hsw hd hi hk hn
  go_enter Tryz.func123, Tryz.ntmps123
  go_wp2_with fail
  refine wp_region_tree (fun _ => True) 14 (.take 0 (.take 1 (.take 2 (.take 3 (.take 4 (.take 5 (.take 6 (.take 8 (.take 9 (.take 10 (.fork 7 (.step 11 (.take 12 (.step 13 .done))) 11 (.step 7 (.take 12 (.step 13 .done))))))))))))))
    (by kernel_rfl) (by kernel_rfl) (fun _ _ d _ _ h => by cases d <;> exact h) (by simp only [Pln.out, Array.getD_eq_getD_getElem?, List.getElem?_toArray, List.getElem?_cons_zero, List.getElem?_cons_succ, Option.getD_some]; rfl) (by simp only [List.map_cons, List.map_nil]; rfl) trivial (fun PE hPE => ?_)
  refine tree_take (v := ?_) rfl (by rfl) ?_ ?_
  rotate_left
  · intro _ hSw; (try dsimp only at hSw); go_simp; (try with_reducible rfl)
  simp only [List.setIfInBounds_toArray, List.set_cons_zero, List.set_cons_succ]
  refine tree_take (v := ?_) rfl (by rfl) ?_ ?_
  rotate_left
  · intro _ hSw; (try dsimp only at hSw); go_simp; (try with_reducible rfl)
  simp only [List.setIfInBounds_toArray, List.set_cons_zero, List.set_cons_succ]
  refine tree_take (v := ?_) rfl (by rfl) ?_ ?_
  rotate_left
  · intro _ hSw; (try dsimp only at hSw); go_simp; (try with_reducible rfl)
  simp only [List.setIfInBounds_toArray, List.set_cons_zero, List.set_cons_succ]
  refine tree_take (v := ?_) rfl (by rfl) ?_ ?_
  rotate_left
  · intro _ hSw; (try dsimp only at hSw); go_simp; (try with_reducible rfl)
  simp only [List.setIfInBounds_toArray, List.set_cons_zero, List.set_cons_succ]
  refine tree_take (v := ?_) rfl (by rfl) ?_ ?_
  rotate_left
  · intro _ hSw; (try dsimp only at hSw); go_simp; (try with_reducible rfl)
  simp only [List.setIfInBounds_toArray, List.set_cons_zero, List.set_cons_succ]
  refine tree_take (v := ?_) rfl (by rfl) ?_ ?_
  rotate_left
  · intro _ hSw; (try dsimp only at hSw); go_simp; (try with_reducible rfl)
  simp only [List.setIfInBounds_toArray, List.set_cons_zero, List.set_cons_succ]
  refine tree_take (v := ?_) rfl (by rfl) ?_ ?_
  rotate_left
  · intro _ hSw; (try dsimp only at hSw); go_simp; (try with_reducible rfl)
  simp only [List.setIfInBounds_toArray, List.set_cons_zero, List.set_cons_succ]
  refine tree_take (v := ?_) rfl (by rfl) ?_ ?_
  rotate_left
  · intro _ hSw; (try dsimp only at hSw); go_simp; (try with_reducible rfl)
  simp only [List.setIfInBounds_toArray, List.set_cons_zero, List.set_cons_succ]
  refine tree_take (v := ?_) rfl (by rfl) ?_ ?_
  rotate_left
  · intro _ hSw; (try dsimp only at hSw); go_simp; (try with_reducible rfl)
  simp only [List.setIfInBounds_toArray, List.set_cons_zero, List.set_cons_succ]
  refine tree_take (v := ?_) rfl (by rfl) ?_ ?_
  rotate_left
  · intro _ hSw; (try dsimp only at hSw); go_simp; (try with_reducible rfl)
  simp only [List.setIfInBounds_toArray, List.set_cons_zero, List.set_cons_succ]
  refine ⟨?_, ?_⟩
  · skip
    refine tree_value (v := ?_) (w' := ?_) rfl (by rfl) ?_ ?_ ?_
    rotate_left 2
    · go_simp; (try (constructor <;> with_reducible rfl))
    · trivial
    refine tree_value (v := ?_) (w' := ?_) rfl (by rfl) ?_ ?_ ?_
    rotate_left 2
    · go_simp; (try (constructor <;> with_reducible rfl))
    · trivial
    refine tree_take (v := ?_) rfl (by rfl) ?_ ?_
    rotate_left
    · intro _ hSw; (try dsimp only at hSw); go_simp; (try with_reducible rfl)
    simp only [List.setIfInBounds_toArray, List.set_cons_zero, List.set_cons_succ]
    refine tree_skip _ (w' := ?_) rfl (by rfl) ?_ ?_ ?_
    rotate_left 1
    · go_simp; (first | (with_reducible rfl) | (constructor <;> with_reducible rfl) | skip)
    · trivial
    (refine hPE _ _ ?_; simp only [List.drop_succ_cons, List.drop_zero]; clear hPE PE)
    have hl : (xs.set i (b1, b2)).length = n := by simpa using HN.out
    generalize ((w.setCell ⟨g, i * 2, none⟩ (.int .i64 b1)).setCell ⟨g, i * 2 + 1, none⟩ (.int .i64 b2)).drew = V at HV HT ⊢
    have x3 := (HV.out.cells hl k HK.out).1
    have x4 := (HV.out.cells hl k HK.out).2
    have y3 : V.frozen? ⟨g, k * 2, none⟩ = false := HV.out.set_frozen hl _
    have y4 : V.frozen? ⟨g, k * 2 + 1, none⟩ = false := HV.out.set_frozen hl _
    clear c1 c2 c3 c4 d1 d2 d3 d4 e1 e2 e3 e4
    go_wp2_with fail
    go_end0
    exact ⟨⟨_, rfl⟩, HV.out.put hl k HK.out a1 a2, (HT.out.set (p := ⟨g, k * 2, none⟩) (Or.inl rfl) _).set (p := ⟨g, k * 2 + 1, none⟩) (Or.inl rfl) _⟩
  · skip
    refine tree_value (v := ?_) (w' := ?_) rfl (by rfl) ?_ ?_ ?_
    rotate_left 2
    · go_simp; (try (constructor <;> with_reducible rfl))
    · trivial
    refine tree_value (v := ?_) (w' := ?_) rfl (by rfl) ?_ ?_ ?_
    rotate_left 2
    · go_simp; (try (constructor <;> with_reducible rfl))
    · trivial
    refine tree_take (v := ?_) rfl (by rfl) ?_ ?_
    rotate_left
    · intro _ hSw; (try dsimp only at hSw); go_simp; (try with_reducible rfl)
    simp only [List.setIfInBounds_toArray, List.set_cons_zero, List.set_cons_succ]
    refine tree_skip _ (w' := ?_) rfl (by rfl) ?_ ?_ ?_
    rotate_left 1
    · go_simp; (first | (with_reducible rfl) | (constructor <;> with_reducible rfl) | skip)
    · trivial
    (refine hPE _ _ ?_; simp only [List.drop_succ_cons, List.drop_zero]; clear hPE PE)
    have hl : (xs.set i (b1, b2)).length = n := by simpa using HN.out
    generalize ((w.setCell ⟨g, i * 2, none⟩ (.int .i64 b1)).setCell ⟨g, i * 2 + 1, none⟩ (.int .i64 b2)).drew = V at HV HT ⊢
    have x3 := (HV.out.cells hl k HK.out).1
    have x4 := (HV.out.cells hl k HK.out).2
    have y3 : V.frozen? ⟨g, k * 2, none⟩ = false := HV.out.set_frozen hl _
    have y4 : V.frozen? ⟨g, k * 2 + 1, none⟩ = false := HV.out.set_frozen hl _
    clear c1 c2 c3 c4 d1 d2 d3 d4 e1 e2 e3 e4
    go_wp2_with fail
    go_end0
    exact ⟨⟨_, rfl⟩, HV.out.put hl k HK.out a1 a2, (HT.out.set (p := ⟨g, k * 2, none⟩) (Or.inl rfl) _).set (p := ⟨g, k * 2 + 1, none⟩) (Or.inl rfl) _⟩
theorem etHold : ElemT Tryz.prog 114 93 2 16 := .mk' (z := .agg #[.int .i64 0, .int .i64 0]) (by kernel_rfl) (by kernel_rfl) rfl (by decide) (by decide)
theorem exec_app {P : Program} {a : Act} {o : Oper} {w w' : World} {t : TypeId} {s x : Operand} {v y v' : Value} (ho : o.op = .call { callee := .builtin .append, args := #[s, x], argTypes := #[t, t] }) (hs : a.eval s = v) (hx : a.eval x = y)
    (hrun : (Builtin.append_ #[t, t] o.type #[v, y]).run P w = .ok v' w') : (execOp a.eval o).run P w = .ok (.value v') w' := by
  unfold execOp
  simp only [ho, resolve, invoke, builtin, Sem.run_bind, Sem.run_pure, Result.andThen_ok, List.map_toArray, List.map_cons, List.map_nil, hs, hx, hrun]
/-- the variable of holders holds xs; of what lay in w nothing has turned but it and its row. -/
def HpPost (w : World) (bh base : Nat) (v : Value) (xs : List Hd) (w' : World) : Prop :=
  ∃ v', Blk w' bh 114 #[v'] ∧ HRow w' base v' xs ∧ Turn (fun b => b = bh ∨ v.ownBlock = some b) w w' ∧ (v'.ownBlock = v.ownBlock ∨ ∃ g, v'.ownBlock = some g ∧ w.heap.size ≤ g)
theorem HRow.app {w' : World} {base : Nat} {v : Value} {xs ys : List Hd} {n : Nat} (h : w'.ownsRow base 93 2 v n (rowC hdC xs ++ rowC hdC ys)) (hn : n = xs.length + ys.length) : HRow w' base v (xs ++ ys) := by
  unfold HRow
  rw [rowC_app, List.length_append, ← hn]
  exact h
set_option maxRecDepth 100000 in
theorem hold_Push (w : World) (bh base : Nat) (v : Value) (xs : List Hd) (hb : Blk w bh 114 #[v]) (h : HRow w base v xs) (hbase : base ≤ w.heap.size) (hl : xs.length ≤ 1000) (x : Hd) :
    Calls Tryz.prog 125 #[.pointer (some ⟨bh, 0, none⟩), .iface 93 (.agg #[.int .i64 x.1, .int .i64 x.2])] w fun e w' => (∃ u, e = .returned u) ∧ HpPost w bh base v (xs ++ [x]) w' := by
  obtain ⟨x1, x2⟩ := x
  dsimp only
  obtain ⟨A, c, hv, hsl⟩ : ∃ A c, v = .slice A xs.length c ∧ True := by
    rcases h.2 with ⟨rfl, hx⟩ | ⟨g, cap, cur, rfl, _⟩
    · exact ⟨none, 0, by rw [hx], trivial⟩
    · exact ⟨_, _, rfl, trivial⟩
  have hta : ∀ W : World, (Instr.typeAssert (.iface 93 (.agg #[.int .i64 x1, .int .i64 x2])) 20 93 false).run Tryz.prog W = .ok (.agg #[.int .i64 x1, .int .i64 x2]) W := fun _ => by kernel_rfl
  have HB := Lib.hid hb
  have HR := Lib.hid h
  have HX := Lib.hid hbase
  have HL := Lib.hid hl
  have c0 := hb.cell 0
  have V := Lib.hid hv
  have hB1 : Below w.heap.size w (w.drew.alloc (.cells #[.int .i64 x1, .int .i64 x2] 93)) := ((Below.refl _ _).drew).alloc (Nat.le_refl _) _
  obtain ⟨v', w', hrun, ho, hg, hor⟩ := run_app (w := w.drew.alloc (.cells #[.int .i64 x1, .int .i64 x2] 93)) etHold 114 (n := xs.length) (m := 1) (c := 1) (A := some ⟨w.heap.size, 0, none⟩) (news := [.int .i64 x1, .int .i64 x2]) (h.below hB1) rfl ((Blk.new w.drew 93 #[.int .i64 x1, .int .i64 x2]).sl 0) (by simp [Value.oneCell']) (by omega) (by have := hB1.size; omega)
  obtain ⟨g', cap', rfl, _, _⟩ := row_shape ho (by omega)
  have hb2 := hb.below hB1 hb.lt
  have hb5 : Blk w' bh 114 #[v] := hb2.grown hg (own_blk_ne (h.below hB1) hb2 (by decide))
  have x5 := hb5.cell 0
  have y5 := hb5.frozen 0
  have HP := Lib.hid (show HpPost w bh base v (xs ++ [(x1, x2)]) (w'.setCell ⟨bh, 0, none⟩ (.slice (some ⟨g', 0, none⟩) (xs.length + 1) cap')) from by
    have ho2 : HRow w' base (.slice (some ⟨g', 0, none⟩) (xs.length + 1) cap') (xs ++ [(x1, x2)]) := HRow.app (ys := [(x1, x2)]) ho rfl
    refine ⟨_, hb5.set_ 0 _, own_set ho2 _ _ (own_blk_ne ho2 hb5 (by decide)), ?_, ?_⟩
    · exact ((Turn.of_below hB1).grown hg (fun r hr => .inl (.inr hr))).set (p := ⟨bh, 0, none⟩) (.inl (.inl rfl)) _
    · rcases hor with hor | hor
      · exact .inl hor
      · exact .inr ⟨_, hor, by simp⟩)
  have HRUN := Lib.hid hrun
  have HB2 := Lib.hid hb2
  have HB5 := Lib.hid hb5
  clear hb h hbase hl hv hB1 ho hg hor hrun hb2 hb5 hsl
  go_enter Tryz.func125, Tryz.ntmps125
  go_wp2_with fail
  refine wp_region_plan2 (fun W => Blk W bh 114 #[v]) 8 [(0, true), (1, true), (2, true), (3, true), (4, true), (5, false), (6, false), (7, false)] (by kernel_rfl) (by kernel_rfl) (fun _ _ d _ _ h => by cases d <;> exact h) (by decide) (by simp only [List.map_cons, List.map_nil, Array.getD_eq_getD_getElem?, List.getElem?_toArray, List.getElem?_cons_zero, List.getElem?_cons_succ, Option.getD_some]; rfl) (by simp only [List.map_cons, List.map_nil]; rfl) (HB.out.drew') (fun PE hPE => ?_)
  refine plan_take (v := ?_) rfl (by rfl) ?_ ?_
  rotate_left
  · intro _ hSw; (try dsimp only at hSw); go_simp; (try with_reducible rfl)
  simp only [List.setIfInBounds_toArray, List.set_cons_zero, List.set_cons_succ]
  refine plan_take (v := ?_) rfl (by rfl) ?_ ?_
  rotate_left
  · intro _ hSw; (try dsimp only at hSw); go_simp; (try with_reducible rfl)
  simp only [List.setIfInBounds_toArray, List.set_cons_zero, List.set_cons_succ]
  refine plan_take (v := ?_) rfl (by rfl) ?_ ?_
  rotate_left
  · intro _ hSw; (try dsimp only at hSw); go_simp; (try with_reducible rfl)
  simp only [List.setIfInBounds_toArray, List.set_cons_zero, List.set_cons_succ]
  refine plan_take (v := ?_) rfl (by rfl) ?_ ?_
  rotate_left
  · intro _ hSw; (try dsimp only at hSw); have c0 := hSw.cell 0; go_simp; (try with_reducible rfl)
  simp only [List.setIfInBounds_toArray, List.set_cons_zero, List.set_cons_succ]
  refine plan_take (v := ?_) rfl (by rfl) ?_ ?_
  rotate_left
  · intro _ hSw; (try dsimp only at hSw); go_simp; (try with_reducible rfl)
  simp only [List.setIfInBounds_toArray, List.set_cons_zero, List.set_cons_succ]
  refine plan_value (v := ?_) (w' := ?_) rfl (by rfl) ?_ ?_ ?_
  rotate_left 2
  · go_simp; (try (constructor <;> with_reducible rfl))
  · exact HB.out.drew'
  refine plan_value (v := ?_) (w' := ?_) rfl (by rfl) ?_ ?_ ?_
  rotate_left 2
  · go_simp; (try (constructor <;> with_reducible rfl))
  · exact HB2.out
  refine plan_value (v := .slice (some ⟨g', 0, none⟩) (xs.length + 1) cap') (w' := w') rfl (by rfl) (exec_app rfl rfl rfl HRUN.out) HB5.out ?_
  simp only [List.setIfInBounds_toArray, List.set_cons_zero, List.set_cons_succ]
  (refine hPE _ _ ?_; simp only [List.drop_succ_cons, List.drop_zero]; clear hPE PE)
  go_wp2_with fail
  go_end0
  exact ⟨⟨_, rfl⟩, HP.out⟩
end Go.Proofs.YtklelheejopfmaaGreat
namespace Go.Proofs.YtklelheejopfmaaGreat
open Go Go.RowKit
attribute [local go_sem] Oper.semAt_some
theorem own_shrink {w : World} {base e s g n cap m : Nat} {xs : List Value} (h : w.ownsRow base e s (.slice (some ⟨g, 0, none⟩) n cap) n xs) (hm : m ≤ n) : w.ownsRow base e s (.slice (some ⟨g, 0, none⟩) m cap) m (xs.take (m * s)) := by
  have hl := h.1
  rcases h.2 with ⟨h', _⟩ | ⟨g', cap', cur, h', hbg, hh, h1, h2, h3, h4⟩
  · simp at h'
  · simp only [Value.slice.injEq, Option.some.injEq, Addr.mk.injEq, and_true, true_and] at h'
    obtain ⟨rfl, rfl⟩ := h'
    have hms : m * s ≤ n * s := Nat.mul_le_mul_right s hm
    refine ⟨by rw [List.length_take, hl]; omega, .inr ⟨g, cap, cur, rfl, hbg, hh, by omega, h2, h3, ?_⟩⟩
    rw [← h4, List.take_take, Nat.min_eq_left hms]
set_option maxRecDepth 100000 in
theorem hold_Pop (w : World) (bh base g m cap : Nat) (ys : List Hd) (z : Hd) (hb : Blk w bh 114 #[.slice (some ⟨g, 0, none⟩) (m + 1) cap]) (h : HRow w base (.slice (some ⟨g, 0, none⟩) (m + 1) cap) (ys ++ [z])) (hm : ys.length = m) (hl : m ≤ 1000) :
    Calls Tryz.prog 124 #[.pointer (some ⟨bh, 0, none⟩)] w fun e w' => e = .returned (.iface 93 (.agg #[.int .i64 z.1, .int .i64 z.2])) ∧ Blk w' bh 114 #[.slice (some ⟨g, 0, none⟩) m cap] ∧ HRow w' base (.slice (some ⟨g, 0, none⟩) m cap) ys ∧ Turn (fun b => b = bh) w w' := by
  obtain ⟨z1, z2⟩ := z
  dsimp only
  have hn : (ys ++ [(z1, z2)]).length = m + 1 := by simp [hm]
  have hz : hx (ys ++ [(z1, z2)]) m = (z1, z2) := by
    unfold hx; rw [List.getD_eq_getElem?_getD, List.getElem?_append_right (by omega), hm]; simp
  have hw : IntKind.i64.wrap (((m + 1 : Nat) : Int) - 1) = (m : Int) := by rw [IntKind.wrap_i64]; omega
  have m0 : ¬ (m : Int) < 0 := by omega
  have m1 : (m : Int) < (m : Int) + 1 := by omega
  have hR2 : w.ownsRow base 93 2 (.slice (some ⟨g, 0, none⟩) (m + 1) cap) (m + 1) (rowC hdC (ys ++ [(z1, z2)])) := by have h' := h; unfold HRow at h'; rw [hn] at h'; exact h'
  have m2 : ¬ ((cap : Int) < (m : Int)) := by
    rcases hR2.2 with ⟨h', _⟩ | ⟨g', cap', cur, h', hbg, hh, h1, h2, h3, h4⟩
    · simp at h'
    · simp only [Value.slice.injEq, Option.some.injEq, Addr.mk.injEq, and_true, true_and] at h'
      obtain ⟨rfl, rfl⟩ := h'
      omega
  have hw2 : IntKind.i64.wrap (m : Int) = (m : Int) := by rw [IntKind.wrap_i64]; omega
  clear hR2
  have HB := Lib.hid hb
  have HR := Lib.hid h
  have HN := Lib.hid hn
  have HZ := Lib.hid hz
  have HM := Lib.hid hm
  have c0 := hb.cell 0
  have d0 := (h.cells hn m (by omega)).1
  have d1 := (h.cells hn m (by omega)).2
  rw [hz] at d0 d1
  have HRD := Lib.hid (show ∀ W, HRow W base (.slice (some ⟨g, 0, none⟩) (m + 1) cap) (ys ++ [(z1, z2)]) → W.cell? ⟨g, m * 2, none⟩ = some (.int .i64 z1) ∧ W.cell? ⟨g, m * 2 + 1, none⟩ = some (.int .i64 z2) from fun W hW => by
    have h1 := hW.cells hn m (by omega); rw [hz] at h1; exact h1)
  clear hb h hn hz hm hl c0 d0 d1
  go_enter Tryz.func124, Tryz.ntmps124
  go_wp2_with fail
  refine wp_region_plan2 (fun W => Blk W bh 114 #[.slice (some ⟨g, 0, none⟩) (m + 1) cap] ∧ HRow W base (.slice (some ⟨g, 0, none⟩) (m + 1) cap) (ys ++ [(z1, z2)])) 11 [(0, true), (1, true), (2, true), (3, true), (4, true), (5, true), (6, true), (7, true), (8, true), (9, true), (10, false)] (by kernel_rfl) (by kernel_rfl) (fun _ _ d _ _ h => by cases d <;> exact h) (by decide) (by simp only [List.map_cons, List.map_nil, Array.getD_eq_getD_getElem?, List.getElem?_toArray, List.getElem?_cons_zero, List.getElem?_cons_succ, Option.getD_some]; rfl) (by simp only [List.map_cons, List.map_nil]; rfl) (⟨HB.out.drew', HR.out.below (Below.refl _ _).drew⟩) (fun PE hPE => ?_)
  refine plan_take (v := ?_) rfl (by rfl) ?_ ?_
  rotate_left
  · intro _ hSw; (try dsimp only at hSw); go_simp; (try with_reducible rfl)
  simp only [List.setIfInBounds_toArray, List.set_cons_zero, List.set_cons_succ]
  refine plan_take (v := ?_) rfl (by rfl) ?_ ?_
  rotate_left
  · intro _ hSw; (try dsimp only at hSw); go_simp; (try with_reducible rfl)
  simp only [List.setIfInBounds_toArray, List.set_cons_zero, List.set_cons_succ]
  refine plan_take (v := ?_) rfl (by rfl) ?_ ?_
  rotate_left
  · intro _ hSw; (try dsimp only at hSw); have c0 := hSw.1.cell 0; go_simp; (try with_reducible rfl)
  simp only [List.setIfInBounds_toArray, List.set_cons_zero, List.set_cons_succ]
  refine plan_take (v := ?_) rfl (by rfl) ?_ ?_
  rotate_left
  · intro _ hSw; (try dsimp only at hSw); go_simp; (try with_reducible rfl)
  simp only [List.setIfInBounds_toArray, List.set_cons_zero, List.set_cons_succ]
  refine plan_take (v := ?_) rfl (by rfl) ?_ ?_
  rotate_left
  · intro _ hSw; (try dsimp only at hSw); go_simp; (try with_reducible rfl)
  simp only [List.setIfInBounds_toArray, List.set_cons_zero, List.set_cons_succ]
  refine plan_take (v := ?_) rfl (by rfl) ?_ ?_
  rotate_left
  · intro _ hSw; (try dsimp only at hSw); have c0 := hSw.1.cell 0; go_simp; (try with_reducible rfl)
  simp only [List.setIfInBounds_toArray, List.set_cons_zero, List.set_cons_succ]
  refine plan_take (v := ?_) rfl (by rfl) ?_ ?_
  rotate_left
  · intro _ hSw; (try dsimp only at hSw); go_simp; (try with_reducible rfl)
  simp only [List.setIfInBounds_toArray, List.set_cons_zero, List.set_cons_succ]
  refine plan_take (v := ?_) rfl (by rfl) ?_ ?_
  rotate_left
  · intro _ hSw; (try dsimp only at hSw); go_simp; (try with_reducible rfl)
  simp only [List.setIfInBounds_toArray, List.set_cons_zero, List.set_cons_succ]
  refine plan_take (v := ?_) rfl (by rfl) ?_ ?_
  rotate_left
  · intro _ hSw; (try dsimp only at hSw); go_simp; (try with_reducible rfl)
  simp only [List.setIfInBounds_toArray, List.set_cons_zero, List.set_cons_succ]
  refine plan_take (v := ?_) rfl (by rfl) ?_ ?_
  rotate_left
  · intro _ hSw; (try dsimp only at hSw); have d0 := (HRD.out _ hSw.2).1; have d1 := (HRD.out _ hSw.2).2; go_simp; (try with_reducible rfl)
  simp only [List.setIfInBounds_toArray, List.set_cons_zero, List.set_cons_succ]
  refine plan_value (v := ?_) (w' := ?_) rfl (by rfl) ?_ ?_ ?_
  rotate_left 2
  · go_simp; (try (constructor <;> with_reducible rfl))
  · exact ⟨HB.out.drew'.alloc _, HR.out.below (((Below.refl _ _).drew).alloc (Nat.le_refl _) _)⟩
  (refine hPE _ _ ?_; simp only [List.drop_succ_cons, List.drop_zero]; clear hPE PE)
  go_wp2_with fail
  have hB1 : Below w.heap.size w (w.alloc (.cells #[.int .i64 z1, .int .i64 z2] 93)).drew := ((Below.refl _ _).alloc (Nat.le_refl _) _).drew
  have HB1 := Lib.hid (show Blk (w.alloc (.cells #[.int .i64 z1, .int .i64 z2] 93)).drew bh 114 #[.slice (some ⟨g, 0, none⟩) (m + 1) cap] from HB.out.below hB1 HB.out.lt)
  have HR1 := Lib.hid (HR.out.below hB1)
  have HZ1 := Lib.hid (show Blk (w.alloc (.cells #[.int .i64 z1, .int .i64 z2] 93)).drew w.heap.size 93 #[.int .i64 z1, .int .i64 z2] from (Blk.new w 93 #[.int .i64 z1, .int .i64 z2]).drew')
  have HBel := Lib.hid hB1
  clear hB1
  generalize (w.alloc (.cells #[.int .i64 z1, .int .i64 z2] 93)).drew = V at HB1 HR1 HZ1 HBel ⊢
  refine wp_region_plan2 (fun W => Blk W bh 114 #[.slice (some ⟨g, 0, none⟩) (m + 1) cap]) 10 [(0, true), (1, true), (2, true), (3, true), (4, true), (5, true), (6, true), (7, true), (8, true), (9, true)] (by kernel_rfl) (by kernel_rfl) (fun _ _ d _ _ h => by cases d <;> exact h) (by decide) (by simp only [List.map_cons, List.map_nil, Array.getD_eq_getD_getElem?, List.getElem?_toArray, List.getElem?_cons_zero, List.getElem?_cons_succ, Option.getD_some]; rfl) (by simp only [List.map_cons, List.map_nil]; rfl) (HB1.out.drew') (fun PE hPE => ?_)
  refine plan_take (v := ?_) rfl (by rfl) ?_ ?_
  rotate_left
  · intro _ hSw; (try dsimp only at hSw); go_simp; (try with_reducible rfl)
  simp only [List.setIfInBounds_toArray, List.set_cons_zero, List.set_cons_succ]
  refine plan_take (v := ?_) rfl (by rfl) ?_ ?_
  rotate_left
  · intro _ hSw; (try dsimp only at hSw); go_simp; (try with_reducible rfl)
  simp only [List.setIfInBounds_toArray, List.set_cons_zero, List.set_cons_succ]
  refine plan_take (v := ?_) rfl (by rfl) ?_ ?_
  rotate_left
  · intro _ hSw; (try dsimp only at hSw); go_simp; (try with_reducible rfl)
  simp only [List.setIfInBounds_toArray, List.set_cons_zero, List.set_cons_succ]
  refine plan_take (v := ?_) rfl (by rfl) ?_ ?_
  rotate_left
  · intro _ hSw; (try dsimp only at hSw); have c0 := hSw.cell 0; go_simp; (try with_reducible rfl)
  simp only [List.setIfInBounds_toArray, List.set_cons_zero, List.set_cons_succ]
  refine plan_take (v := ?_) rfl (by rfl) ?_ ?_
  rotate_left
  · intro _ hSw; (try dsimp only at hSw); go_simp; (try with_reducible rfl)
  simp only [List.setIfInBounds_toArray, List.set_cons_zero, List.set_cons_succ]
  refine plan_take (v := ?_) rfl (by rfl) ?_ ?_
  rotate_left
  · intro _ hSw; (try dsimp only at hSw); go_simp; (try with_reducible rfl)
  simp only [List.setIfInBounds_toArray, List.set_cons_zero, List.set_cons_succ]
  refine plan_take (v := ?_) rfl (by rfl) ?_ ?_
  rotate_left
  · intro _ hSw; (try dsimp only at hSw); have c0 := hSw.cell 0; go_simp; (try with_reducible rfl)
  simp only [List.setIfInBounds_toArray, List.set_cons_zero, List.set_cons_succ]
  refine plan_take (v := ?_) rfl (by rfl) ?_ ?_
  rotate_left
  · intro _ hSw; (try dsimp only at hSw); go_simp; (try with_reducible rfl)
  simp only [List.setIfInBounds_toArray, List.set_cons_zero, List.set_cons_succ]
  refine plan_take (v := ?_) rfl (by rfl) ?_ ?_
  rotate_left
  · intro _ hSw; (try dsimp only at hSw); go_simp; (try with_reducible rfl)
  simp only [List.setIfInBounds_toArray, List.set_cons_zero, List.set_cons_succ]
  refine plan_take (v := ?_) rfl (by rfl) ?_ ?_
  rotate_left
  · intro _ hSw; (try dsimp only at hSw); go_simp; (try with_reducible rfl)
  simp only [List.setIfInBounds_toArray, List.set_cons_zero, List.set_cons_succ]
  (refine hPE _ _ ?_; simp only [List.drop_succ_cons, List.drop_zero]; clear hPE PE)
  have c0 := HB1.out.cell 0
  have f0 := HB1.out.frozen 0
  have z0 := (HZ1.out.far (p := ⟨bh, 0, none⟩) (blk_ne HZ1.out HB1.out (by decide)) (.slice (some ⟨g, 0, none⟩) m cap)).cell 0
  have z1' := (HZ1.out.far (p := ⟨bh, 0, none⟩) (blk_ne HZ1.out HB1.out (by decide)) (.slice (some ⟨g, 0, none⟩) m cap)).cell 1
  go_wp2_with fail
  go_ret
  have hr := HR1.out
  unfold HRow at hr
  rw [HN.out] at hr
  have hr2 : HRow V base (.slice (some ⟨g, 0, none⟩) m cap) ys := by
    have h1 := own_shrink hr (Nat.le_succ m)
    rw [← rowC_take hdC_len] at h1
    have h2 : (ys ++ [(z1, z2)]).take m = ys := by rw [List.take_append_of_le_length (by rw [HM.out]; exact Nat.le_refl _), ← HM.out, List.take_length]
    rw [h2] at h1
    unfold HRow
    rw [HM.out]
    exact h1
  refine ⟨rfl, (HB1.out.set_ 0 _).drew', ?_, ?_⟩
  · exact HRow.below (own_set hr2 _ _ (own_blk_ne hr2 HB1.out (by decide))) (Below.refl _ _).drew
  · have t1 : Turn (fun b => b = bh) w V := Turn.of_below HBel.out
    have t2 := t1.set (p := ⟨bh, 0, none⟩) (Or.inl rfl) (.slice (some ⟨g, 0, none⟩) m cap)
    exact t2.trans (Turn.of_below (Below.refl _ _).drew)
end Go.Proofs.YtklelheejopfmaaGreat
