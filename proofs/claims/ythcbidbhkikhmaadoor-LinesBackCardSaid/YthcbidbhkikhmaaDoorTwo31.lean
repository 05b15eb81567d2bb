/- LinesTwo: a text of two parts. -/
import Derived.Test.YthcbidbhkikhmaaDoorOnly31
import Derived.Test.YthcbidbhkikhmaaDoorReads31
namespace Go.Proofs.YthcbidbhkikhmaaDoor
open Go Go.RowKit
theorem run_ok (f : List UInt8 → Except (Nat × Nat) OpN) : ∀ (l : List (List UInt8)) (p : Nat) (os : List OpN) (st : Nat × List OpN), runA f (.ok (p, os)) l = .ok st → st.1 = p + tot l
  | [], p, os, st, h => by
    have : (p, os) = st := by simpa [runA] using h
    subst this; rfl
  | x :: l, p, os, st, h => by
    have h' : runA f (stepA f (p, os) x) l = .ok st := h
    unfold stepA at h'
    split at h'
    · split at h'
      · rw [runA_err] at h'; cases h'
      · have := run_ok f l _ _ st h'
        simp [tot] at this ⊢; omega
    · have := run_ok f l _ _ st h'
      simp [tot] at this ⊢; omega
def shiftA (p : Nat) (os : List OpN) : ResA → ResA
  | .ok st => .ok (p + st.1, os ++ st.2)
  | .error e => .error (e.1, p + e.2)
theorem run_shift (f : List UInt8 → Except (Nat × Nat) OpN) (p : Nat) (os : List OpN) : ∀ (l : List (List UInt8)) (q : Nat) (os' : List OpN), runA f (.ok (p + q, os ++ os')) l = shiftA p os (runA f (.ok (q, os')) l)
  | [], q, os' => rfl
  | x :: l, q, os' => by
    show runA f (stepA f (p + q, os ++ os') x) l = shiftA p os (runA f (stepA f (q, os') x) l)
    unfold stepA
    split
    · cases f x with
      | error e =>
        dsimp only
        rw [runA_err, runA_err]
        show Except.error (e.1, p + q + e.2) = Except.error (e.1, p + (q + e.2))
        rw [Nat.add_assoc]
      | ok o =>
        dsimp only
        rw [← run_shift f p os l (q + (x.length + 1)) (os' ++ [o]), Nat.add_assoc, List.append_assoc]
    · dsimp only
      rw [← run_shift f p os l (q + (x.length + 1)) os', Nat.add_assoc]
def twoR (n : Nat) : Except (Nat × Nat) (List OpN) → Except (Nat × Nat) (List OpN) → Except (Nat × Nat) (List OpN)
  | .error e, _ => .error e
  | .ok _, .error e => .error (e.1, n + 1 + e.2)
  | .ok l, .ok m => .ok (l ++ m)
theorem all_two (f : List UInt8 → Except (Nat × Nat) OpN) (a b : List UInt8) : allP f (a ++ 10 :: b) = twoR a.length (allP f a) (allP f b) := by
  unfold allP
  have hs : splitL 10 (a ++ 10 :: b) = splitL 10 a ++ splitL 10 b := by rw [split_S, split_S, split_S, split_app]
  have hr : runA f (.ok (0, [])) (splitL 10 a ++ splitL 10 b) = runA f (runA f (.ok (0, [])) (splitL 10 a)) (splitL 10 b) := by simp [runA]
  rw [hs, hr]
  cases ha : runA f (.ok (0, [])) (splitL 10 a) with
  | error e => rw [runA_err]; rfl
  | ok st =>
    have h1 := run_ok f _ _ _ _ ha
    rw [tot_split, Nat.zero_add] at h1
    obtain ⟨p, os⟩ := st
    have h1' : p = a.length + 1 := h1
    subst h1'
    have h2 := run_shift f (a.length + 1) os (splitL 10 b) 0 []
    rw [Nat.add_zero, List.append_nil] at h2
    rw [h2]
    cases runA f (.ok (0, [])) (splitL 10 b) with
    | error e => rfl
    | ok st => rfl
theorem run_bad (f : List UInt8 → Except (Nat × Nat) OpN) (hf : ∀ x e, f x = .error e → e.1 ≠ 0 ∧ e.2 ≤ x.length) : ∀ (l : List (List UInt8)) (p : Nat) (os : List OpN) (e : Nat × Nat), runA f (.ok (p, os)) l = .error e → e.1 ≠ 0 ∧ e.2 + 1 ≤ p + tot l
  | [], p, os, e, h => by simp [runA] at h
  | x :: l, p, os, e, h => by
    have h' : runA f (stepA f (p, os) x) l = .error e := h
    unfold stepA at h'
    split at h'
    · split at h'
      · rename_i e1 he
        rw [runA_err] at h'
        have h2 : (e1.1, p + e1.2) = e := by injection h'
        obtain ⟨q1, q2⟩ := hf x e1 he
        subst h2
        exact ⟨q1, by simp [tot]; omega⟩
      · have := run_bad f hf l _ _ e h'
        simp [tot] at this ⊢; omega
    · have := run_bad f hf l _ _ e h'
      simp [tot] at this ⊢; omega
theorem ref_bad (x : List UInt8) (e : Nat × Nat) (h : refP x = .error e) : e.1 ≠ 0 ∧ e.2 ≤ x.length := by
  by_cases hl : x.length ≤ 3000
  · obtain ⟨a, b⟩ := e
    obtain ⟨h1, h2⟩ := ref_err h hl
    exact ⟨by show a ≠ 0; omega, h2⟩
  · unfold refP at h
    rw [if_pos (by omega)] at h
    have : (4, 3000) = e := by injection h
    subst this
    exact ⟨by decide, by show 3000 ≤ x.length; omega⟩
theorem all_bad {t : List UInt8} {a b : Nat} (h : allP refP t = .error (a, b)) : a ≠ 0 ∧ b ≤ t.length := by
  unfold allP at h
  cases hr : runA refP (.ok (0, [])) (splitL 10 t) with
  | ok st => rw [hr] at h; cases h
  | error e =>
    rw [hr] at h
    have h2 : e = (a, b) := by injection h
    subst h2
    have := run_bad refP ref_bad _ _ _ _ hr
    rw [tot_split] at this
    exact ⟨this.1, by have := this.2; omega⟩
theorem wpList_run_w {P : Program} {ops : Array Oper} {Q : Exit → Act → World → Prop} {rest : List Oper} {o : Oper} {a : Act} {w w' : World} {v : Value} (hgd : Region.wanted o (yielded ops a.tmps) = true)
    (hrun : (execOp a.eval o).run P w = .ok (.value v) w') (h : wpList P ops Q rest (a.put o.dst v) w') : wpList P ops Q (o :: rest) a w := by
  unfold wpList
  rw [if_pos hgd]
  left
  unfold Oper.wp
  rw [hrun]
  exact h
theorem wpList_app_w {P : Program} {ops : Array Oper} {Q : Exit → Act → World → Prop} {rest : List Oper} {o : Oper} {a : Act} {w : World} {t e size bytes : Nat} (et : ElemT P t e size bytes) (hgd : Region.wanted o (yielded ops a.tmps) = true) {s x : Operand}
    (ho : o.op = .call { callee := .builtin .append, args := #[s, x], argTypes := #[t, t] }) {base n m c : Nat} {v : Value} {xs news : List Value} {A : Option Addr} (hs : a.eval s = v) (hown : w.ownsRow base e size v n xs)
    (hx : a.eval x = .slice A m c) (hl : news.length = m * size) (hS : Sl w A news) (h1 : ∀ u ∈ news, u.oneCell' = true) (hb : (n + m) * bytes ≤ 140737488355328) (hbase : base ≤ w.heap.size)
    (h : ∀ v' w', w'.ownsRow base e size v' (n + m) (xs ++ news) → w.grownBy w' v.ownBlock → (v'.ownBlock = v.ownBlock ∨ v'.ownBlock = some w.heap.size) → wpList P ops Q rest (a.put o.dst v') w') : wpList P ops Q (o :: rest) a w := by
  obtain ⟨v', w', hrun, h2, h3, h4⟩ := run_app et o.type (c := c) hown hl hS h1 hb hbase
  refine wpList_run_w hgd (v := v') (w' := w') ?_ (h v' w' h2 h3 h4)
  unfold execOp
  simp only [ho, resolve, invoke, builtin, Sem.run_bind, Sem.run_pure, Result.andThen_ok, List.map_toArray, List.map_cons, List.map_nil, hs, hx, hrun]
theorem OpsRow.below {W W' : World} {base : Nat} {v : Value} {os : List OpN} (h : OpsRow W base v os) (hb : Below W.heap.size W W') : OpsRow W' base v os := h.kept fun _ _ _ _ hk => hk.below hb hk.lt
def BSt (w : World) (os : List OpN) (f1 f2 n3 : Nat) (A3 : Option Addr) (c3 : Nat) (W : World) : Prop :=
  Blk W n3 34 #[.int .i64 (f1 : Int), .int .i64 (f2 : Int)] ∧ OpsRow W w.heap.size (.slice A3 os.length c3) os ∧ Below w.heap.size w W
theorem BSt.stay {w : World} {os : List OpN} {f1 f2 n3 : Nat} {A3 : Option Addr} {c3 : Nat} {W W' : World} (h : BSt w os f1 f2 n3 A3 c3 W) (hb : Below W.heap.size W W') : BSt w os f1 f2 n3 A3 c3 W' :=
  ⟨h.1.below hb h.1.lt, h.2.1.below hb, h.2.2.trans (hb.mono h.2.2.size)⟩
theorem BSt.new {w w1 : World} {os : List OpN} {f1 f2 : Nat} {A3 : Option Addr} {c3 : Nat} (ho : OpsRow w1 w.heap.size (.slice A3 os.length c3) os) (hb : Below w.heap.size w w1) :
    BSt w os f1 f2 w1.heap.size A3 c3 (w1.alloc (.cells #[.int .i64 (f1 : Int), .int .i64 (f2 : Int)] 34)) :=
  ⟨Blk.new _ _ _, ho.below ((Below.refl _ _).alloc (Nat.le_refl _) _), hb.alloc hb.size _⟩
def AllPostO (os : List OpN) (f1 f2 : Nat) (w : World) (e : Ending) (w' : World) : Prop :=
  ∃ A c, e = .returned (.tuple #[.slice A os.length c, .agg #[.int .i64 (f1 : Int), .int .i64 (f2 : Int)]]) ∧ OpsRow w' w.heap.size (.slice A os.length c) os ∧ Below w.heap.size w w'
theorem AllPost.toO {r : Except (Nat × Nat) (List OpN)} {w w' : World} {e : Ending} (h : AllPost r w e w') : AllPostO (opsOf r) (ferrOf r).1 (ferrOf r).2 w e w' := by
  obtain ⟨v, rfl, ho, hb⟩ := h
  have hr := ReadOps.of_row ho
  obtain ⟨A, c, vs, e, h1, h2⟩ := hr
  have e' : v = .slice A (opsOf r).length c := e
  subst e'
  exact ⟨A, c, rfl, ho, hb⟩
theorem own_slk {w : World} {base e size n c : Nat} {A : Option Addr} {xs : List Value} (h : w.ownsRow base e size (.slice A n c) n xs) : Sl w A xs := by
  rcases h.2 with ⟨_, rfl⟩ | ⟨g, cap, cur, e1, hbg, hh, h1, h2, h3, h4⟩
  · have : xs = [] := List.eq_nil_of_length_eq_zero (by simpa using h.1)
    subst this
    exact Sl.nil _ _
  · cases e1
    have := (Blk.sl (w := w) (g := g) (t := e) (cs := cur) hh 0).take (n * size)
    rw [List.drop_zero, h4] at this
    exact this
theorem cellsOf_app : ∀ (os1 : List OpN) (vs1 : List Value) (os2 : List OpN) (vs2 : List Value), vs1.length = os1.length → cellsOf (os1 ++ os2) (vs1 ++ vs2) = cellsOf os1 vs1 ++ cellsOf os2 vs2
  | [], [], _, _, _ => rfl
  | o :: os1, v :: vs1, os2, vs2, h => by
    have := cellsOf_app os1 vs1 os2 vs2 (by simpa using h)
    simp only [List.cons_append, cellsOf, this, List.append_assoc]
  | [], _ :: _, _, _, h => by simp at h
  | _ :: _, [], _, _, h => by simp at h
theorem BsSl.app {W : World} : ∀ {os1 : List OpN} {vs1 : List Value} {os2 : List OpN} {vs2 : List Value}, BsSl W os1 vs1 → BsSl W os2 vs2 → BsSl W (os1 ++ os2) (vs1 ++ vs2)
  | [], [], _, _, _, h => h
  | _ :: _, _ :: _, _, _, h1, h => ⟨h1.1, h1.2.app h⟩
  | [], _ :: _, _, _, h1, _ => h1.elim
  | _ :: _, [], _, _, h1, _ => h1.elim
theorem cells_one : ∀ (os : List OpN) (vs : List Value) (W : World), BsSl W os vs → ∀ u ∈ cellsOf os vs, u.oneCell' = true
  | [], [], _, _, u, hu => by simp [cellsOf] at hu
  | o :: os, v :: vs, W, h, u, hu => by
    obtain ⟨A, c, rfl, _⟩ := h.1
    simp only [cellsOf, List.cons_append, List.nil_append, List.mem_cons] at hu
    rcases hu with rfl | rfl | rfl | rfl | hu
    · rfl
    · rfl
    · rfl
    · rfl
    · exact cells_one os vs W h.2 u hu
  | [], _ :: _, _, h, _, _ => h.elim
  | _ :: _, [], _, h, _, _ => h.elim
theorem cells_len : ∀ (os : List OpN) (vs : List Value), vs.length = os.length → (cellsOf os vs).length = os.length * 4
  | [], [], _ => rfl
  | _ :: os, _ :: vs, h => by
    have := cells_len os vs (by simpa using h)
    simp [cellsOf, this]; omega
  | [], _ :: _, h => by simp at h
  | _ :: _, [], h => by simp at h
/-- what the append of two rows reads as -/
theorem read_app {W W' : World} {base b2 : Nat} {v : Value} {vr : Value} {os1 os2 os : List OpN} {vs1 vs2 : List Value} (hos : os1 ++ os2 = os) (hg : W.grownBy W' v.ownBlock) (hv : W.ownsRow base 24 4 v os1.length (cellsOf os1 vs1))
    (h : W'.ownsRow base 24 4 vr (os1.length + os2.length) (cellsOf os1 vs1 ++ cellsOf os2 vs2)) (h1 : OwnBs W base os1 vs1) (h2 : OwnBs W b2 os2 vs2) : ∃ A c, vr = .slice A os.length c ∧ ReadOps W' vr os := by
  subst hos
  have hk : ∀ g cs, Blk W g 5 cs → Blk W' g 5 cs := fun g cs hb => hb.grown hg (own_blk_ne hv hb (by decide))
  have hb1 := BsSl.of_own (h1.kept hk)
  have hb2 := BsSl.of_own (h2.kept hk)
  have hl := h1.len
  have hlen : (os1 ++ os2).length = os1.length + os2.length := List.length_append
  rcases h.2 with ⟨rfl, h0⟩ | ⟨g, cap, cur, rfl, hbg, hh, e1, e2, e3, e4⟩
  · have z1 : os1 = [] := List.eq_nil_of_length_eq_zero (by omega)
    have z2 : os2 = [] := List.eq_nil_of_length_eq_zero (by omega)
    subst z1 z2
    have z3 : vs1 = [] := List.eq_nil_of_length_eq_zero hl
    subst z3
    have z4 : vs2 = [] := List.eq_nil_of_length_eq_zero h2.len
    subst z4
    exact ⟨none, 0, rfl, none, 0, [], rfl, Sl.nil _ _, trivial⟩
  · refine ⟨some ⟨g, 0, none⟩, cap, by rw [hlen], some ⟨g, 0, none⟩, cap, vs1 ++ vs2, by rw [hlen], ?_, hb1.app hb2⟩
    rw [cellsOf_app _ _ _ _ hl]
    exact own_slk h
theorem nl_cat (a b : List UInt8) : bs a ++ ⟨#[10]⟩ ++ bs b = bs (a ++ 10 :: b) := by
  show bs a ++ bs [10] ++ bs b = _
  rw [bs_append, bs_append, List.append_assoc]
  rfl
theorem lines_all_O (t : List UInt8) (W : World) (h : t.length ≤ 10000) : Calls Tryd.prog 18 #[.string (bs t)] W (AllPostO (opsOf (allP refP t)) (ferrOf (allP refP t)).1 (ferrOf (allP refP t)).2 W) :=
  (lines_all_ref t W h).mono fun _ _ h => h.toO
set_option maxRecDepth 100000 in
set_option maxHeartbeats 8000000 in
theorem law_LinesTwo (a b : List UInt8) (w : World) (hT : Tb w) :
    Calls Tryd.prog 8 #[.string (bs a), .string (bs b)] w fun e w' => e = .returned (.bool true) ∧ Below w.heap.size w w' := by
  have CK := Lib.hid (law_known w hT)
  clear hT
  by_cases h1 : 300 < a.length
  · go_enter Tryd.func8, Tryd.ntmps8
    go_wp2_with (go_at_call 5; refine CK.out.mono ?_; rintro e w1 ⟨rfl, hb1⟩)
    go_ret
    exact ⟨rfl, hb1⟩
  by_cases h2 : 300 < b.length
  · go_enter Tryd.func8, Tryd.ntmps8
    go_wp2_with (go_at_call 5; refine CK.out.mono ?_; rintro e w1 ⟨rfl, hb1⟩)
    go_ret
    exact ⟨rfl, hb1⟩
  have hl : (a ++ 10 :: b).length = a.length + b.length + 1 := by simp; omega
  have C1 : Hid (∀ W, Calls Tryd.prog 18 #[.string (bs a ++ ⟨#[10]⟩ ++ bs b)] W (AllPostO (opsOf (twoR a.length (allP refP a) (allP refP b))) (ferrOf (twoR a.length (allP refP a) (allP refP b))).1 (ferrOf (twoR a.length (allP refP a) (allP refP b))).2 W)) := Lib.hid (fun W => by
    rw [nl_cat, ← all_two]; exact lines_all_O _ W (by omega))
  have C2 : Hid (∀ W, Calls Tryd.prog 18 #[.string (bs a)] W (AllPostO (opsOf (allP refP a)) (ferrOf (allP refP a)).1 (ferrOf (allP refP a)).2 W)) := Lib.hid (fun W => lines_all_O a W (by omega))
  have C3 : Hid (∀ W, Calls Tryd.prog 18 #[.string (bs b)] W (AllPostO (opsOf (allP refP b)) (ferrOf (allP refP b)).1 (ferrOf (allP refP b)).2 W)) := Lib.hid (fun W => lines_all_O b W (by omega))
  cases ha : allP refP a with
  | error e1 =>
    obtain ⟨x, y⟩ := e1
    obtain ⟨hx, hy⟩ := all_bad ha
    rw [ha] at C1 C2
    have C1' : Hid (∀ W, Calls Tryd.prog 18 #[.string (bs a ++ ⟨#[10]⟩ ++ bs b)] W (AllPostO [] x y W)) := C1
    have C2' : Hid (∀ W, Calls Tryd.prog 18 #[.string (bs a)] W (AllPostO [] x y W)) := C2
    generalize opsOf (allP refP b) = os3 at C3
    generalize (ferrOf (allP refP b)).1 = f1 at C3
    generalize (ferrOf (allP refP b)).2 = f2 at C3
    clear C1 C2 ha
    have hx1 : ¬ (x : Int) = 0 := by omega
    have hx2 : ((x : Int) == 0) = false := by rw [beq_eq_false_iff_ne]; exact hx1
    go_enter Tryd.func8, Tryd.ntmps8
    go_wp2_with (first
      | (go_at_call 5; refine CK.out.mono ?_; rintro e w1 ⟨rfl, hb1⟩; have HB1 := Lib.hid hb1; clear hb1)
      | (go_at_call 18; refine (C1'.out _).mono ?_; rintro e w2 ⟨A1, c1, rfl, ho1, hb2⟩; have H1 := Lib.hid (BSt.new (f1 := x) (f2 := y) ho1 hb2); have HB2 := Lib.hid (HB1.out.trans (H1.out.2.2.mono HB1.out.size)); clear C1' ho1 hb2)
      | (go_at_call 18; refine (C2'.out _).mono ?_; rintro e w3 ⟨A2, c2, rfl, ho2, hb3⟩; have H2 := Lib.hid (BSt.new (f1 := x) (f2 := y) ho2 hb3); have H1' := Lib.hid (H1.out.stay H2.out.2.2); have HB3 := Lib.hid (HB2.out.trans (H2.out.2.2.mono HB2.out.size)); clear C2' ho2 hb3 H1)
      | (go_at_call 18; refine (C3.out _).mono ?_; rintro e w4 ⟨A3, c3, rfl, ho3, hb4⟩; have H3 := Lib.hid (BSt.new (f1 := f1) (f2 := f2) ho3 hb4); have H1 := Lib.hid (H1'.out.stay H3.out.2.2); have H2' := Lib.hid (H2.out.stay H3.out.2.2); have HB4 := Lib.hid (HB3.out.trans (H3.out.2.2.mono HB3.out.size)); clear C3 ho3 hb4 H1' H2; have x0 := H1.out.1.cell 0; have x1 := H1.out.1.cell 1; have y0 := H2'.out.1.cell 0; have y1 := H2'.out.1.cell 1))
    go_ret
    exact ⟨rfl, HB4.out⟩
  | ok os1 =>
    rw [ha] at C1 C2
    have C2' : Hid (∀ W, Calls Tryd.prog 18 #[.string (bs a)] W (AllPostO os1 0 0 W)) := C2
    cases hb : allP refP b with
    | error e1 =>
      obtain ⟨x, y⟩ := e1
      obtain ⟨hx, hy⟩ := all_bad hb
      rw [hb] at C1 C3
      have C1' : Hid (∀ W, Calls Tryd.prog 18 #[.string (bs a ++ ⟨#[10]⟩ ++ bs b)] W (AllPostO [] x (a.length + 1 + y) W)) := C1
      have C3' : Hid (∀ W, Calls Tryd.prog 18 #[.string (bs b)] W (AllPostO [] x y W)) := C3
      obtain ⟨z, hz⟩ : ∃ z, a.length + 1 + y = z := ⟨_, rfl⟩
      rw [hz] at C1'
      have hz2 : (y : Int) + (a.length : Int) + 1 = (z : Int) := by omega
      clear C1 C2 C3 ha hb
      have hx1 : ¬ (x : Int) = 0 := by omega
      have hx2 : ((x : Int) == 0) = false := by rw [beq_eq_false_iff_ne]; exact hx1
      go_enter Tryd.func8, Tryd.ntmps8
      go_wp2_with (first
        | (go_at_call 5; refine CK.out.mono ?_; rintro e w1 ⟨rfl, hb1⟩; have HB1 := Lib.hid hb1; clear hb1)
        | (go_at_call 18; refine (C1'.out _).mono ?_; rintro e w2 ⟨A1, c1, rfl, ho1, hb2⟩; have H1 := Lib.hid (BSt.new (f1 := x) (f2 := z) ho1 hb2); have HB2 := Lib.hid (HB1.out.trans (H1.out.2.2.mono HB1.out.size)); clear C1' ho1 hb2)
        | (go_at_call 18; refine (C2'.out _).mono ?_; rintro e w3 ⟨A2, c2, rfl, ho2, hb3⟩; have H2 := Lib.hid (BSt.new (f1 := 0) (f2 := 0) ho2 hb3); have H1' := Lib.hid (H1.out.stay H2.out.2.2); have HB3 := Lib.hid (HB2.out.trans (H2.out.2.2.mono HB2.out.size)); clear C2' ho2 hb3 H1)
        | (go_at_call 18; refine (C3'.out _).mono ?_; rintro e w4 ⟨A3, c3, rfl, ho3, hb4⟩; have H3 := Lib.hid (BSt.new (f1 := x) (f2 := y) ho3 hb4); have H1 := Lib.hid (H1'.out.stay H3.out.2.2); have H2' := Lib.hid (H2.out.stay H3.out.2.2); have HB4 := Lib.hid (HB3.out.trans (H3.out.2.2.mono HB3.out.size)); clear C3' ho3 hb4 H1' H2; have x0 := H1.out.1.cell 0; have x1 := H1.out.1.cell 1; have y0 := H2'.out.1.cell 0; have y1 := H2'.out.1.cell 1))
      go_ret
      exact ⟨rfl, HB4.out⟩
    | ok os2 =>
      rw [hb] at C1 C3
      have hlen : (os1 ++ os2).length ≤ 100000 := by
        have h5 := ops_len a; have h6 := ops_len b
        rw [ha] at h5; rw [hb] at h6
        have h5' : os1.length ≤ a.length + 1 := h5
        have h6' : os2.length ≤ b.length + 1 := h6
        rw [List.length_append]; omega
      have C1' : Hid (∀ W, Calls Tryd.prog 18 #[.string (bs a ++ ⟨#[10]⟩ ++ bs b)] W (AllPostO (os1 ++ os2) 0 0 W)) := C1
      have C3' : Hid (∀ W, Calls Tryd.prog 18 #[.string (bs b)] W (AllPostO os2 0 0 W)) := C3
      obtain ⟨os, hos⟩ : ∃ os, os1 ++ os2 = os := ⟨_, rfl⟩
      rw [hos] at C1' hlen
      have HOS := Lib.hid hos
      have h12 : (os1.length + os2.length) * 56 ≤ 140737488355328 := by rw [← hos, List.length_append] at hlen; omega
      clear C1 C2 C3 ha hb hos
      go_enter Tryd.func8, Tryd.ntmps8
      go_wp2_with (first
        | (go_at_call 5; refine CK.out.mono ?_; rintro e w1 ⟨rfl, hb1⟩; have HB1 := Lib.hid hb1; clear hb1)
        | (go_at_call 18; refine (C1'.out _).mono ?_; rintro e w2 ⟨A1, c1, rfl, ho1, hb2⟩; have H1 : Hid (BSt w1 os 0 0 w2.heap.size A1 c1 (w2.alloc (.cells #[.int .i64 0, .int .i64 0] 34))) := Lib.hid (BSt.new (f1 := 0) (f2 := 0) ho1 hb2); have HL2 := Lib.hid (ReadOps.of_row H1.out.2.1); have HB2 := Lib.hid (HB1.out.trans (H1.out.2.2.mono HB1.out.size)); clear C1' ho1 hb2)
        | (go_at_call 18; refine (C2'.out _).mono ?_; rintro e w3 ⟨A2, c2, rfl, ho2, hb3⟩; have H2 := Lib.hid (BSt.new (f1 := 0) (f2 := 0) ho2 hb3); have H1' := Lib.hid (H1.out.stay H2.out.2.2); have HB3 := Lib.hid (HB2.out.trans (H2.out.2.2.mono HB2.out.size)); clear C2' ho2 hb3 H1)
        | (go_at_call 18; refine (C3'.out _).mono ?_; rintro e w4 ⟨A3, c3, rfl, ho3, hb4⟩; have H3 : Hid (BSt _ os2 0 0 w4.heap.size A3 c3 (w4.alloc (.cells #[.int .i64 0, .int .i64 0] 34))) := Lib.hid (BSt.new (f1 := 0) (f2 := 0) ho3 hb4); have H1 := Lib.hid (H1'.out.stay H3.out.2.2); have H2' := Lib.hid (H2.out.stay H3.out.2.2); have HB4 := Lib.hid (HB3.out.trans (H3.out.2.2.mono HB3.out.size)); clear C3' ho3 hb4 H1' H2; have x0 := H1.out.1.cell 0; have x1 := H1.out.1.cell 1; have y0 := H2'.out.1.cell 0; have y1 := H2'.out.1.cell 1; obtain ⟨vs1, hr1, hw1⟩ := H2'.out.2.1; obtain ⟨vs2, hr2, hw2⟩ := H3.out.2.1; have R1 := Lib.hid hr1; have R2 := Lib.hid (own_slk hr2); have L2 := Lib.hid (cells_len os2 vs2 hw2.len); have O2 := Lib.hid (cells_one os2 vs2 _ (BsSl.of_own hw2)); have HW1 := Lib.hid hw1; have HW2 := Lib.hid hw2; clear hr1 hr2 hw1 hw2)
        | (at_builtin; refine wpList_app_w etOp (by first | rfl | go_simp) rfl rfl R1.out rfl (m := os2.length) (news := cellsOf os2 vs2) L2.out R2.out O2.out h12 H2'.out.2.2.size ?_; intro vr w6 ho6 hg6 _; obtain ⟨A6, c6, rfl, hr6⟩ := read_app HOS.out hg6 R1.out ho6 HW1.out HW2.out; have HR6 := Lib.hid hr6; have HL6 := Lib.hid (HL2.out.below (below_app H2'.out.2.2 R1.out hg6 H2'.out.2.2.size (Nat.le_refl _))); have HB6 := Lib.hid (below_app HB4.out R1.out hg6 HB4.out.size HB2.out.size); clear ho6 hg6 hr6)
        | (go_at_call 21; refine (same_ops os (.slice A1 os.length c1) (.slice A6 os.length c6) w6 HL6.out HR6.out hlen).mono ?_; rintro e w7 ⟨rfl, hb7⟩; have HB7 := Lib.hid (HB6.out.trans (hb7.mono HB6.out.size)); clear hb7))
      go_ret
      exact ⟨rfl, HB7.out⟩
end Go.Proofs.YthcbidbhkikhmaaDoor
