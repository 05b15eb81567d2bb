/- The program's All. -/
import Derived.Test.YthcbidbhkikhmaaDoorAll31
import Derived.RegionIn
namespace Go.Proofs.YthcbidbhkikhmaaDoor
open Go Go.RowKit
attribute [local go_sem] Oper.semAt_some
def PA (w0 : World) (s2 : Nat) (st : Nat × List OpN) (W : World) : Prop := ∃ v z, Blk W w0.heap.size 37 #[.slice none 0 0] ∧ Blk W (w0.heap.size + 1) 34 #[.int .i64 0, .int .i64 0] ∧ Blk W (w0.heap.size + 2) 37 #[v] ∧ OpsRow W w0.heap.size v st.2 ∧
  Blk W (w0.heap.size + 3) 3 #[.int .i64 (st.1 : Int)] ∧ Blk W s2 9 #[z] ∧ Below w0.heap.size w0 W
def AllI (w : World) (s1 s2 s3 n1 : Nat) (pre : List (List UInt8)) (W : World) : Prop := ∃ st, runA parP (.ok (0, [])) pre = .ok st ∧ st.1 = tot pre ∧ st.2.length ≤ tot pre ∧ PA w s2 st W ∧ n1 ≤ W.heap.size ∧ (∃ c1, Blk W s1 9 c1) ∧ (∃ c3, Blk W s3 3 c3)
def AllX (w : World) (c : Code) (pre : List (List UInt8)) (W : World) : Prop := c = .ret ∧ ∃ e1 e2, runA parP (.ok (0, [])) pre = .error (e1, e2) ∧ Blk W w.heap.size 37 #[.slice none 0 0] ∧ Blk W (w.heap.size + 1) 34 #[.int .i64 (e1 : Nat), .int .i64 (e2 : Nat)] ∧ Below w.heap.size w W
theorem allI_own (w : World) (s1 s2 s3 n1 : Nat) (hB : w.heap.size ≤ n1) : OwnFrom n1 (AllI w s1 s2 s3 n1) := by
  intro pre W W' row h hg hr
  obtain ⟨st, h1, h2, h3, ⟨v, z, p1, p2, p3, p4, p5, p6, p7⟩, h4, ⟨c1, h5⟩, ⟨c3, h6⟩⟩ := h
  have hk : ∀ g t cs, Blk W g t cs → Blk W' g t cs := fun g t cs h => blk_walk hg (fun r e => (hr r e).2) h
  exact ⟨st, h1, h2, h3, ⟨v, z, hk _ _ _ p1, hk _ _ _ p2, hk _ _ _ p3, p4.kept (fun g t cs _ => hk g t cs), hk _ _ _ p5, hk _ _ _ p6, below_walk p7 hg hr hB (Nat.le_trans hB h4)⟩, Nat.le_trans h4 hg.size, ⟨c1, hk _ _ _ h5⟩, ⟨c3, hk _ _ _ h6⟩⟩
theorem allX_own (w : World) (n1 : Nat) (hB : w.heap.size ≤ n1) : ∀ c, OwnFrom n1 (AllX w c) := by
  intro c pre W W' row h hg hr
  obtain ⟨h0, e1, e2, h1, p1, p2, p3⟩ := h
  have hk : ∀ g t cs, Blk W g t cs → Blk W' g t cs := fun g t cs h => blk_walk hg (fun r e => (hr r e).2) h
  exact ⟨h0, e1, e2, h1, hk _ _ _ p1, hk _ _ _ p2, below_walk p3 hg hr hB p3.size⟩
theorem allI_set (w : World) (s1 s2 s3 n1 : Nat) (h : w.heap.size + 4 ≤ s2) (h12 : s1 ≠ s2) : ∀ pre W v, AllI w s1 s2 s3 n1 pre W → AllI w s1 s2 s3 n1 pre (W.setCell ⟨s2, 0, none⟩ v) := by
  intro pre W v h'
  obtain ⟨st, h1, h2, h3, ⟨v', z, p1, p2, p3, p4, p5, p6, p7⟩, h4, ⟨c1, h5⟩, ⟨c3, h6⟩⟩ := h'
  have hk : ∀ g t cs, t ≠ 9 → Blk W g t cs → Blk (W.setCell ⟨s2, 0, none⟩ v) g t cs := fun g t cs ht h => h.far (p := ⟨s2, 0, none⟩) (blk_ne h p6 ht) v
  exact ⟨st, h1, h2, h3, ⟨v', v, hk _ _ _ (by decide) p1, hk _ _ _ (by decide) p2, hk _ _ _ (by decide) p3, p4.kept (fun g t cs ht => hk g t cs (by rcases ht with rfl | rfl <;> decide)), hk _ _ _ (by decide) p5, p6.set_ 0 v, p7.setCell (p := ⟨s2, 0, none⟩) (by show w.heap.size ≤ s2; omega) v⟩, by rw [World.size_setCell]; exact h4, ⟨c1, h5.far (p := ⟨s2, 0, none⟩) h12 v⟩, ⟨c3, hk _ _ _ (by decide) h6⟩⟩
theorem runA_pre {f : List UInt8 → Except (Nat × Nat) OpN} {e : ResA} {b : Nat × Nat} {pre l : List (List UInt8)} (h : pre <+: l) (hr : runA f e pre = .error b) : runA f e l = .error b := by
  obtain ⟨r, rfl⟩ := h
  unfold runA at *
  rw [List.foldl_append, hr]
  exact runA_err f b r
theorem runA_snoc (f : List UInt8 → Except (Nat × Nat) OpN) (e : ResA) (l : List (List UInt8)) (x : List UInt8) : runA f e (l ++ [x]) = nextA f (runA f e l) x := by simp [runA]
theorem all_ret {tmps : Array Value} {W : World} {B : Nat} {v e f : Value} (h2 : tmps.getD 2 undef = .pointer (some ⟨B, 0, none⟩)) (h3 : tmps.getD 3 undef = .pointer (some ⟨B + 1, 0, none⟩)) (hb : Blk W B 37 #[v]) (hf : Blk W (B + 1) 34 #[e, f]) :
    (results Tryd.f18 tmps).run Tryd.prog W = .ok (.tuple #[v, .agg #[e, f]]) W := by
  have c0 := hb.cell 0
  have e0 := hf.cell 0
  have e1 := hf.cell 1
  have h2' : (tmps[2]?).getD undef = .pointer (some ⟨B, 0, none⟩) := by rw [← h2]; simp
  have h3' : (tmps[3]?).getD undef = .pointer (some ⟨B + 1, 0, none⟩) := by rw [← h3]; simp
  simp at c0 e0 e1
  simp [results, Tryd.results18, go_sem, h2', h3', c0, e0, e1]
def startA (w : World) : World := (((w.alloc (.cells #[.slice none 0 0] 37)).alloc (.cells #[.int .i64 0, .int .i64 0] 34)).alloc (.cells #[.slice none 0 0] 37)).alloc (.cells #[.int .i64 0] 3)
def StartA (w W : World) : Prop := Blk W w.heap.size 37 #[.slice none 0 0] ∧ Blk W (w.heap.size + 1) 34 #[.int .i64 0, .int .i64 0] ∧ Blk W (w.heap.size + 2) 37 #[.slice none 0 0] ∧ Blk W (w.heap.size + 3) 3 #[.int .i64 0] ∧ Below w.heap.size w W
theorem all_start (w : World) : StartA w (startA w) := by
  unfold StartA startA
  refine ⟨?_, ?_, ?_, ?_, ?_⟩
  · exact (((Blk.new _ _ _).alloc _).alloc _).alloc _
  · exact ((((Blk.new _ _ _).at_eq (by simp)).alloc _).alloc _)
  · exact (((Blk.new _ _ _).at_eq (by simp)).alloc _)
  · exact ((Blk.new _ _ _).at_eq (by simp))
  · exact ((((Below.refl _ _).alloc (Nat.le_refl _) _).alloc (by simp) _).alloc (by simp; omega) _).alloc (by simp; omega) _
theorem stepP_pos {st st' : StN} {x : List UInt8} (h : stepP st x = .ok st') : st'.pos = st.pos + (x.length + 1) := by
  unfold stepP at h
  split at h
  · split at h
    · cases h
    · cases h; rfl
  · split at h
    · cases h
    · split at h
      · cases h
      · cases h; rfl
theorem stepP_err {st : StN} {x : List UInt8} {b : Nat} (h : stepP st x = .error b) : b ≤ st.pos := by
  unfold stepP at h
  split at h
  · split at h
    · cases h; exact Nat.zero_le _
    · cases h
  · split at h
    · cases h; exact Nat.sub_le _ _
    · split at h
      · cases h; exact Nat.le_refl _
      · cases h
theorem fold_err_le : ∀ (l : List (List UInt8)) (st : StN) (b : Nat), l.foldl nextP (.ok st) = .error b → b ≤ st.pos + tot l
  | [], st, b, h => by cases h
  | x :: l, st, b, h => by
    have ht : tot (x :: l) = x.length + 1 + tot l := by simp [tot]
    rw [List.foldl_cons] at h
    show b ≤ st.pos + tot (x :: l)
    rw [ht]
    cases hs : stepP st x with
    | error b' =>
      have h1 : nextP (.ok st) x = .error b' := hs
      rw [h1, foldl_err] at h
      cases h
      have := stepP_err hs
      omega
    | ok st' =>
      have h1 : nextP (.ok st) x = .ok st' := hs
      rw [h1] at h
      have := fold_err_le l st' b h
      have := stepP_pos hs
      omega
theorem parP_err {line : List UInt8} {e : Nat × Nat} (h : parP line = .error e) : (e.1 = 4 ∨ e.1 = 14) ∧ e.2 ≤ line.length + 3001 := by
  unfold parP at h
  split at h
  · cases h; exact ⟨Or.inl rfl, by show 3000 ≤ _; omega⟩
  · split at h
    · rename_i b hb
      cases h
      have := fold_err_le _ _ _ hb
      rw [tot_split] at this
      exact ⟨Or.inr rfl, by show b ≤ _; simp at this; omega⟩
    · split at h
      · cases h
      · cases h; exact ⟨Or.inr rfl, by show line.length ≤ _; omega⟩
theorem keeps_grown {A B : World} {base e size n n1 : Nat} {v : Value} {xs : List Value} (hown : A.ownsRow base e size v n xs) (hg : A.grownBy B v.ownBlock) : KeepsFrom n1 A B := by
  refine ⟨hg.size, fun k o _ hk ho => (hg.block k (Array.getElem?_eq_some_iff.1 hk).1 (fun e => ?_)).trans hk⟩
  rcases hown.2 with ⟨rfl, _⟩ | ⟨g, cap, cur, rfl, _, hh, _⟩
  · simp [Value.ownBlock] at e
  · have : k = g := by simpa [Value.ownBlock] using e
    subst this
    rw [hh] at hk
    cases hk
    cases ho
set_option maxRecDepth 100000 in
set_option maxHeartbeats 4000000 in
theorem lines_all (text : List UInt8) (w : World) (hsz : text.length ≤ 10000) : Calls Tryd.prog 18 #[.string (bs text)] w (AllPost (allP parP text) w) := by
  obtain ⟨r, hr⟩ : ∃ r, allP parP text = r := ⟨_, rfl⟩
  rw [hr]
  unfold allP at hr
  have Hr := Lib.hid hr
  clear hr
  refine (callsIn_wide (n := 5)).1 ?_
  refine callsIn_of_wp_marks Tryd.func18 rfl trivial ?_ rfl
  simp only [Tryd.ntmps18, List.size_toArray, List.length_cons, List.length_nil, Nat.reduceAdd, Nat.reduceSub, Array.replicate_succ, Array.replicate_zero, List.push_toArray, List.append_toArray, List.nil_append, List.cons_append]
  refine wpIn_wide.2 ?_
  have Cs : Hid (∀ W, Calls Tryd.prog 36 #[.string (bs text), .string ⟨#[10]⟩] W (SplitPost 10 text W)) := Lib.hid (fun W => split_seq 10 text W)
  have HP0 := Lib.hid (all_start w)
  have Hsz0 := Lib.hid (show (startA w).heap.size = w.heap.size + 4 by unfold startA; simp)
  have tok : Hid (∀ W, W = startA w → Calls Tryd.prog 36 #[.string (bs text), .string ⟨#[10]⟩] W (SplitPost 10 text (startA w))) := Lib.hid (fun W h => by subst h; exact Cs.out _)
  go_wp2_with (go_at_call 36; refine (tok.out _ rfl).mono ?_; generalize startA w = W0 at HP0 Hsz0 ⊢; rintro e w1 ⟨b1, b2, b3, rfl, hr1⟩; have HR1 := Lib.hid hr1; clear hr1)
  obtain ⟨hs1, hs2, hs3, h12, h32, hl1, hl2, hl3, hb1⟩ := HR1.out
  simp only [Nat.add_assoc, Nat.reduceAdd]
  refine (wpIn_wide (n := 5)).1 ?_
  have hW1 : W0.heap.size ≤ w1.heap.size := hb1.size
  refine wp_cells (α := List UInt8) (enc := fun x => #[Value.string (bs x)]) (b := b2) (Kp := fun A B => B.heap[b1]? = A.heap[b1]? ∧ B.heap[b2]? = A.heap[b2]? ∧ B.heap[b3]? = A.heap[b3]?) (S := fun xs => xs = splitL 10 text) (Sp := fun pre => pre <+: splitL 10 text) rfl (by decide) (gf := 54)
    (lb := #[.pointer (some ⟨b1, 0, none⟩), .pointer (some ⟨b2, 0, none⟩), .pointer (some ⟨b3, 0, none⟩)]) rfl trivial (enters_of Tryd.func54 (by kernel_rfl) rfl) (split_cells 4 (by decide) b1 b2 b3 10 text hsz w1 hs1 hs2 hs3 h12 h32) (Below.refl _ _) hs2.lt
    (fun h k => ⟨k.1.trans h.1, k.2.1.trans h.2.1, k.2.2.trans h.2.2⟩) (fun W l o hl => ⟨World.putObj_heap_other (Nat.ne_of_lt (Nat.lt_of_lt_of_le hs1.lt hl)), World.putObj_heap_other (Nat.ne_of_lt (Nat.lt_of_lt_of_le hs2.lt hl)), World.putObj_heap_other (Nat.ne_of_lt (Nat.lt_of_lt_of_le hs3.lt hl))⟩) (fun _ => rfl)
    (fun pre W => AllI w b1 b2 b3 w1.heap.size pre W) (fun c pre W => AllX w c pre W) (allI_own _ _ _ _ _ (by have := Hsz0.out; omega)) (allX_own _ _ (by have := Hsz0.out; omega)) (allI_set _ _ _ _ _ (by have := Hsz0.out; omega) h12) ?start (fun x => { tmps := #[.string (bs text), undef, .pointer (some ⟨w.heap.size, 0, none⟩), .pointer (some ⟨w.heap.size + 1, 0, none⟩), .pointer (some ⟨w.heap.size + 2, 0, none⟩), .pointer (some ⟨w.heap.size + 3, 0, none⟩), .string (bs x), undef, undef, .string (bs text), .func (.func 54) #[] #[.pointer (some ⟨b1, 0, none⟩), .pointer (some ⟨b2, 0, none⟩), .pointer (some ⟨b3, 0, none⟩)], .string (bs x), undef, undef, undef, undef, undef, undef, undef, undef, undef, undef, undef, undef, undef, undef, undef, undef, undef, undef, undef, undef, undef, undef, undef, undef, undef, undef, undef, undef, undef, undef, undef, undef], defers := [] }) ?assign ?body ?done ?stop
  case start =>
    obtain ⟨q1, q2, q3, q4, q5⟩ := HP0.out
    have hk : ∀ g t cs, Blk W0 g t cs → Blk w1 g t cs := fun g t cs h => h.below hb1 h.lt
    exact ⟨(0, []), rfl, rfl, Nat.le_refl _, ⟨_, _, hk _ _ _ q1, hk _ _ _ q2, hk _ _ _ q3, OpsRow.nil _ _, hk _ _ _ q4, hs2, q5.trans (hb1.mono q5.size)⟩, Nat.le_refl _, ⟨_, hs1⟩, ⟨_, hs3⟩⟩
  case assign =>
    intro l x W K hK
    gi_wp2
    exact hK
  case done =>
    rintro D xs W hD rfl ⟨st, hrun, hpos, hlen, ⟨v, z, p1, p2, p3, p4, p5, p6, p7⟩, hn1, _, _⟩ hK
    have hr := Hr.out
    rw [hrun] at hr
    have hr2 : Except.ok st.2 = r := hr
    subst hr2
    have r0 := p1.cell 0
    have fr0 := p1.frozen 0
    have s0 := p2.cell 0
    have s1 := p2.cell 1
    have fs0 := p2.frozen 0
    have fs1 := p2.frozen 1
    have v0 := p3.cell 0
    obtain ⟨Av, cv, rfl⟩ : ∃ A c, v = .slice A st.2.length c := by
      obtain ⟨vs, h1, _⟩ := p4
      rcases h1.2 with ⟨h, h0⟩ | ⟨g, cap, cur, h, _⟩
      · exact ⟨none, 0, by rw [h, h0]⟩
      · exact ⟨_, _, h⟩
    have hDne : ∀ g, g < w.heap.size + 4 → g ≠ D := fun g hg e => by have := Hsz0.out; omega
    have hb01 : w.heap.size ≠ w.heap.size + 1 := Nat.ne_of_lt (Nat.lt_succ_self _)
    have P1 := Lib.hid p1; have P2 := Lib.hid p2; have P4 := Lib.hid p4; have P7 := Lib.hid p7; have HK := Lib.hid hK
    clear p1 p2 p3 p4 p5 p6 p7 hK hrun hr Hr
    go_wp2_with fail
    have z1 := ((P1.out.set_ 0 (.slice Av st.2.length cv)).far (p := ⟨w.heap.size + 1, 0, none⟩) hb01 (.int .i64 0)).far (p := ⟨w.heap.size + 1, 1, none⟩) hb01 (.int .i64 0)
    have z2 := ((P2.out.far (p := ⟨w.heap.size, 0, none⟩) hb01.symm (.slice Av st.2.length cv)).set_ 0 (.int .i64 0)).set_ 1 (.int .i64 0)
    have zr : OpsRow (((W.setCell ⟨w.heap.size, 0, none⟩ (.slice Av st.2.length cv)).setCell ⟨w.heap.size + 1, 0, none⟩ (.int .i64 0)).setCell ⟨w.heap.size + 1, 1, none⟩ (.int .i64 0)) w.heap.size (.slice Av st.2.length cv) st.2 := P4.out.kept (fun g t cs ht h => ((h.far (p := ⟨w.heap.size, 0, none⟩) (blk_ne h P1.out (by rcases ht with rfl | rfl <;> decide)) _).far (p := ⟨w.heap.size + 1, 0, none⟩) (blk_ne h P2.out (by rcases ht with rfl | rfl <;> decide)) _).far (p := ⟨w.heap.size + 1, 1, none⟩) (blk_ne h P2.out (by rcases ht with rfl | rfl <;> decide)) _)
    have zb := ((P7.out.setCell (p := ⟨w.heap.size, 0, none⟩) (Nat.le_refl _) (.slice Av st.2.length cv)).setCell (p := ⟨w.heap.size + 1, 0, none⟩) (Nat.le_succ _) (.int .i64 0)).setCell (p := ⟨w.heap.size + 1, 1, none⟩) (Nat.le_succ _) (.int .i64 0)
    have zk : (((W.setCell ⟨w.heap.size, 0, none⟩ (.slice Av st.2.length cv)).setCell ⟨w.heap.size + 1, 0, none⟩ (.int .i64 0)).setCell ⟨w.heap.size + 1, 1, none⟩ (.int .i64 0)).heap[D]? = some (.deferred (some [])) := by
      have h1 : D ≠ w.heap.size := (hDne _ (by omega)).symm
      have h2 : D ≠ w.heap.size + 1 := (hDne _ (by omega)).symm
      rw [Below.heap_setCell _ _ _ _ h2, Below.heap_setCell _ _ _ _ h2, Below.heap_setCell _ _ _ _ h1]
      exact HK.out
    have zr2 := zr.kept (W' := ((((W.setCell ⟨w.heap.size, 0, none⟩ (.slice Av st.2.length cv)).setCell ⟨w.heap.size + 1, 0, none⟩ (.int .i64 0)).setCell ⟨w.heap.size + 1, 1, none⟩ (.int .i64 0)).putObj D (.deferred none))) (fun g t cs _ h => blk_put h (fun e => by subst e; unfold Blk at h; rw [zk] at h; cases h))
    exact ret_mark zk (all_ret rfl rfl (blk_put z1 (hDne _ (by omega))) (blk_put z2 (hDne _ (by omega)))) ⟨_, rfl, zr2, zb.trans (put_below zk (by have := Hsz0.out; omega))⟩
  case stop =>
    rintro D c pre W hD hpre ⟨rfl, e1, e2, hrun, p1, p2, p3⟩ hK
    have hr := Hr.out
    rw [runA_pre hpre hrun] at hr
    have hr2 : Except.error (e1, e2) = r := hr
    subst hr2
    have hDne : ∀ g, g < w.heap.size + 4 → g ≠ D := fun g hg e => by have := Hsz0.out; omega
    refine wpIn_wide.2 ?_
    clear Hr hr
    go_wp2_with fail
    exact ret_mark hK (all_ret rfl rfl (blk_put p1 (hDne _ (by omega))) (blk_put p2 (hDne _ (by omega)))) ⟨_, rfl, OpsRow.nil _ _, p3.trans (put_below hK (by have := Hsz0.out; omega))⟩
  case body =>
    rintro l pre x W ⟨⟨k, os⟩, hrun, hpos, hlen, ⟨v, z, p1, p2, p3, p4, p5, p6, p7⟩, hn1, ⟨c1, h5⟩, ⟨c3, h6⟩⟩ hsp
    replace hpos : k = tot pre := hpos
    replace hlen : os.length ≤ tot pre := hlen
    have htot := tot_prefix hsp
    rw [tot_snoc, tot_split, ← hpos] at htot
    rw [← hpos] at hlen
    have hL0 := Hsz0.out
    have hxl : x.length ≤ 10000 := by omega
    have hnext : ∀ r, stepA parP (k, os) x = r → runA parP (.ok (0, [])) (pre ++ [x]) = r := fun r h => by rw [runA_snoc, hrun]; exact h
    have htn : k + (x.length + 1) = tot (pre ++ [x]) := by rw [tot_snoc, hpos]
    have k0 := p5.cell 0
    have fk0 := p5.frozen 0
    have hkI : ((k + (x.length + 1) : Nat) : Int) = (k : Int) + ((x.length : Int) + 1) := by omega
    by_cases hcond : x ≠ [] ∧ x.getD 0 0 ≠ 35
    · have hnil := hcond.1
      have hpx : 0 < x.length := List.length_pos_iff.2 hnil
      have h35 : x[0] ≠ 35 := by
        have h1 := hcond.2
        rwa [List.getD, List.getElem?_eq_getElem hpx, Option.getD_some] at h1
      have q35 : ((x[0].toNat : Int) != 35) = true := by rw [bne_iff_ne]; intro h; exact h35 (UInt8.toNat_inj.1 (by simpa using (by omega : x[0].toNat = 35)))
      have qn : (x == []) = false := beq_eq_false_iff_ne.2 hnil
      have hpi : (0 : Int) < (x.length : Int) := by omega
      have Cp := Lib.hid (fun W => lines_parse x W hxl)
      cases hpar : parP x with
      | error e =>
        obtain ⟨e1, e2⟩ := e
        rw [hpar] at Cp
        obtain ⟨he1, he2⟩ := parP_err hpar
        dsimp only at he1 he2
        have qe : ((e1 : Int) != 0) = true := by rw [bne_iff_ne]; omega
        have HQ := Lib.hid (show runA parP (.ok (0, [])) (pre ++ [x]) = .error (e1, k + e2) from hnext _ (by unfold stepA; rw [if_pos hcond, hpar]))
        have P1 := Lib.hid p1; have P2 := Lib.hid p2; have P5 := Lib.hid p5; have P7 := Lib.hid p7
        have hkw : IntKind.i64.wrap ((e2 : Int) + (k : Int)) = (e2 : Int) + (k : Int) := by rw [IntKind.wrap_i64]; omega
        have hke : (e2 : Int) + (k : Int) = ((k + e2 : Nat) : Int) := by omega
        have HKE := Lib.hid hke
        clear p1 p2 p3 p4 p5 p6 p7 hnext hrun hkI hcond h35 hnil hpar he1 hke hsp htn hpos
        gi_wp2_with (refine ⟨trivial, ?_⟩; gi_at_call 16; refine (CallsIn.inRound l (callsIn_wide.2 (Cp.out _))).mono ?_; intro e w2 hpp; obtain ⟨A2, c2, rfl, hb2⟩ := hpp.of_err; have HB2 := Lib.hid hb2; have k1 := (((P5.out.below hb2 P5.out.lt).alloc (.cells #[.string ⟨#[]⟩, .int .i64 0, .int .i64 0, .slice A2 0 c2] 24)).alloc (.cells #[.int .i64 (e1 : Int), .int .i64 (e2 : Int)] 34)).cell 0; clear hb2 hpp)
        have hF := (Blk.new (w2.alloc (.cells #[.string ⟨#[]⟩, .int .i64 0, .int .i64 0, .slice A2 0 c2] 24)) 34 #[.int .i64 (e1 : Int), .int .i64 ((e2 : Int) + (k : Int))]).at_eq (World.size_alloc w2 _)
        have hR1 := ((P1.out.below HB2.out P1.out.lt).alloc (.cells #[.string ⟨#[]⟩, .int .i64 0, .int .i64 0, .slice A2 0 c2] 24)).alloc (.cells #[.int .i64 (e1 : Int), .int .i64 ((e2 : Int) + (k : Int))] 34)
        have hR2 := ((P2.out.below HB2.out P2.out.lt).alloc (.cells #[.string ⟨#[]⟩, .int .i64 0, .int .i64 0, .slice A2 0 c2] 24)).alloc (.cells #[.int .i64 (e1 : Int), .int .i64 ((e2 : Int) + (k : Int))] 34)
        have hBB : Below w.heap.size w ((w2.alloc (.cells #[.string ⟨#[]⟩, .int .i64 0, .int .i64 0, .slice A2 0 c2] 24)).alloc (.cells #[.int .i64 (e1 : Int), .int .i64 ((e2 : Int) + (k : Int))] 34)) := ((P7.out.trans (HB2.out.mono P7.out.size)).alloc (Nat.le_trans P7.out.size HB2.out.size) _).alloc (by have h1 := P7.out.size; have h2 := HB2.out.size; rw [World.size_alloc]; omega) _
        have hSS := ((Stp.of_below (L := W0.heap.size) HB2.out).alloc (.cells #[.string ⟨#[]⟩, .int .i64 0, .int .i64 0, .slice A2 0 c2] 24)).alloc (.cells #[.int .i64 (e1 : Int), .int .i64 ((e2 : Int) + (k : Int))] 34)
        have HF := Lib.hid hF; have HR1 := Lib.hid hR1; have HR2 := Lib.hid hR2; have HBB := Lib.hid hBB; have HSS := Lib.hid hSS
        clear hF hR1 hR2 hBB hSS k1
        generalize ((w2.alloc (.cells #[.string ⟨#[]⟩, .int .i64 0, .int .i64 0, .slice A2 0 c2] 24)).alloc (.cells #[.int .i64 (e1 : Int), .int .i64 ((e2 : Int) + (k : Int))] 34)) = W3 at HF HR1 HR2 HBB HSS ⊢
        have f0 := HF.out.cell 0
        have f1 := HF.out.cell 1
        have r0 := HR1.out.cell 0
        have fr0 := HR1.out.frozen 0
        have s0 := HR2.out.cell 0
        have s1 := HR2.out.cell 1
        have fs0 := HR2.out.frozen 0
        have fs1 := HR2.out.frozen 1
        have f0' := (HF.out.far (p := ⟨w.heap.size, 0, none⟩) (blk_ne HF.out HR1.out (by decide)) (.slice none 0 0)).cell 0
        have f1' := (HF.out.far (p := ⟨w.heap.size, 0, none⟩) (blk_ne HF.out HR1.out (by decide)) (.slice none 0 0)).cell 1
        refine wpIn_region_any (by kernel_rfl) ?_
        change wpAnyIn _ _ _ _ _ _ _ _ _ (World.drew _)
        refine wpAnyIn_ready (rs := [0, 1]) (by kernel_rfl) (by simp) ?_
        refine AllReadyIn.cons rfl (fun K hK => ?_) ?_
        · go_simp
          refine hK _ _ ?_
          clear hK K
          refine wpAnyIn_ready (rs := [1]) (by kernel_rfl) (by simp) ?_
          refine AllReadyIn.cons rfl (fun K hK => ?_) AllReadyIn.nil
          go_simp
          refine hK _ _ ?_
          clear hK K
          refine wpAnyIn_ready (rs := [2]) (by kernel_rfl) (by simp) ?_
          refine AllReadyIn.cons rfl (fun K hK => ?_) AllReadyIn.nil
          go_simp
          refine hK _ _ ?_
          clear hK K
          refine wpAnyIn_done (by kernel_rfl) ?_ _
          gi_wp2_with fail
          have z1 := ((HR1.out.set_ 0 (.slice none 0 0)).far (p := ⟨w.heap.size + 1, 0, none⟩) (Nat.ne_of_lt (Nat.lt_succ_self _)) (.int .i64 (e1 : Int))).far (p := ⟨w.heap.size + 1, 1, none⟩) (Nat.ne_of_lt (Nat.lt_succ_self _)) (.int .i64 ((e2 : Int) + (k : Int)))
          have z2 := ((HR2.out.far (p := ⟨w.heap.size, 0, none⟩) (Ne.symm (Nat.ne_of_lt (Nat.lt_succ_self _))) (.slice none 0 0)).set_ 0 (.int .i64 (e1 : Int))).set_ 1 (.int .i64 ((e2 : Int) + (k : Int)))
          have zb := (((HBB.out.setCell (p := ⟨w.heap.size, 0, none⟩) (Nat.le_refl _) (.slice none 0 0)).setCell (p := ⟨w.heap.size + 1, 0, none⟩) (Nat.le_succ _) (.int .i64 (e1 : Int))).setCell (p := ⟨w.heap.size + 1, 1, none⟩) (Nat.le_succ _) (.int .i64 ((e2 : Int) + (k : Int)))).drew
          have zs := (((HSS.out.set (p := ⟨w.heap.size, 0, none⟩) (by show w.heap.size < W0.heap.size; omega) (.slice none 0 0)).set (p := ⟨w.heap.size + 1, 0, none⟩) (by show w.heap.size + 1 < W0.heap.size; omega) (.int .i64 (e1 : Int))).set (p := ⟨w.heap.size + 1, 1, none⟩) (by show w.heap.size + 1 < W0.heap.size; omega) (.int .i64 ((e2 : Int) + (k : Int)))).trans (Stp.of_below (Below.refl _ _).drew)
          rw [HKE.out] at z1 z2 zb zs ⊢
          exact ⟨zs.keeps hW1, rfl, e1, k + e2, HQ.out, z1.drew', z2.drew', zb⟩
        · refine AllReadyIn.cons rfl (fun K hK => ?_) AllReadyIn.nil
          go_simp
          refine hK _ _ ?_
          clear hK K
          refine wpAnyIn_ready (rs := [0]) (by kernel_rfl) (by simp) ?_
          refine AllReadyIn.cons rfl (fun K hK => ?_) AllReadyIn.nil
          go_simp
          refine hK _ _ ?_
          clear hK K
          refine wpAnyIn_ready (rs := [2]) (by kernel_rfl) (by simp) ?_
          refine AllReadyIn.cons rfl (fun K hK => ?_) AllReadyIn.nil
          go_simp
          refine hK _ _ ?_
          clear hK K
          refine wpAnyIn_done (by kernel_rfl) ?_ _
          gi_wp2_with fail
          have z1 := ((HR1.out.set_ 0 (.slice none 0 0)).far (p := ⟨w.heap.size + 1, 0, none⟩) (Nat.ne_of_lt (Nat.lt_succ_self _)) (.int .i64 (e1 : Int))).far (p := ⟨w.heap.size + 1, 1, none⟩) (Nat.ne_of_lt (Nat.lt_succ_self _)) (.int .i64 ((e2 : Int) + (k : Int)))
          have z2 := ((HR2.out.far (p := ⟨w.heap.size, 0, none⟩) (Ne.symm (Nat.ne_of_lt (Nat.lt_succ_self _))) (.slice none 0 0)).set_ 0 (.int .i64 (e1 : Int))).set_ 1 (.int .i64 ((e2 : Int) + (k : Int)))
          have zb := (((HBB.out.setCell (p := ⟨w.heap.size, 0, none⟩) (Nat.le_refl _) (.slice none 0 0)).setCell (p := ⟨w.heap.size + 1, 0, none⟩) (Nat.le_succ _) (.int .i64 (e1 : Int))).setCell (p := ⟨w.heap.size + 1, 1, none⟩) (Nat.le_succ _) (.int .i64 ((e2 : Int) + (k : Int)))).drew
          have zs := (((HSS.out.set (p := ⟨w.heap.size, 0, none⟩) (by show w.heap.size < W0.heap.size; omega) (.slice none 0 0)).set (p := ⟨w.heap.size + 1, 0, none⟩) (by show w.heap.size + 1 < W0.heap.size; omega) (.int .i64 (e1 : Int))).set (p := ⟨w.heap.size + 1, 1, none⟩) (by show w.heap.size + 1 < W0.heap.size; omega) (.int .i64 ((e2 : Int) + (k : Int)))).trans (Stp.of_below (Below.refl _ _).drew)
          rw [HKE.out] at z1 z2 zb zs ⊢
          exact ⟨zs.keeps hW1, rfl, e1, k + e2, HQ.out, z1.drew', z2.drew', zb⟩
      | ok o =>
        rw [hpar] at Cp
        have HQ := Lib.hid (show runA parP (.ok (0, [])) (pre ++ [x]) = .ok (k + (x.length + 1), os ++ [o]) from hnext _ (by unfold stepA; rw [if_pos hcond, hpar]))
        obtain ⟨vs, hr1, hr2⟩ := p4
        have v0 := p3.cell 0
        have P1 := Lib.hid p1; have P2 := Lib.hid p2; have P3 := Lib.hid p3; have P5 := Lib.hid p5; have P6 := Lib.hid p6; have P7 := Lib.hid p7
        have HA1 := Lib.hid hr1; have HO1 := Lib.hid hr2
        have HTN := Lib.hid htn
        have HKI := Lib.hid hkI
        obtain ⟨htE, ⟨i0, z0, hiE, hzE, hszE, hbyE, hcsE⟩, hposE, hbE⟩ := etOp
        clear p1 p2 p3 p5 p6 p7 hr1 hr2 hnext hrun hcond h35 hnil hpar htn hkI hsp hpos
        gi_wp2_with (first
          | (refine ⟨trivial, ?_⟩; gi_at_call 16; refine (CallsIn.inRound l (callsIn_wide.2 (Cp.out _))).mono ?_; intro e w2 hpp; obtain ⟨A2, c2, rfl, ho2, hb2⟩ := hpp.of_ok; have HB2 := Lib.hid hb2; have HO2 := Lib.hid ho2; have u0 := (((P3.out.below hb2 P3.out.lt).alloc (.cells #[.string (bs o.w), .int .i64 (o.id : Int), .int .i64 (o.n : Int), .slice A2 o.b.length c2] 24)).alloc (.cells #[.int .i64 0, .int .i64 0] 34)).cell 0; clear hb2 hpp ho2)
          | (gi_at_builtin; refine wpListIn_append_own _ rfl _ _ 37 rfl w.heap.size 24 i0 z0 4 56 htE hiE hzE hszE hbyE hcsE (by decide) v os.length (cellsOf os vs) rfl ((((own_below HA1.out HB2.out (Nat.le_refl _)).alloc (.cells #[.string (bs o.w), .int .i64 (o.id : Int), .int .i64 (o.n : Int), .slice A2 o.b.length c2] 24)).alloc (.cells #[.int .i64 0, .int .i64 0] 34)).alloc (.cells #[.string (bs o.w), .int .i64 (o.id : Int), .int .i64 (o.n : Int), .slice A2 o.b.length c2] 24)) ⟨w2.heap.size + 2, 0, none⟩ 1 1 [Value.string (bs o.w), .int .i64 (o.id : Int), .int .i64 (o.n : Int), .slice A2 o.b.length c2] rfl rfl (fun j u hu => by obtain ⟨ad', h, _, hc⟩ := ((((Blk.new ((w2.alloc (.cells #[.string (bs o.w), .int .i64 (o.id : Int), .int .i64 (o.n : Int), .slice A2 o.b.length c2] 24)).alloc (.cells #[.int .i64 0, .int .i64 0] 34)) 24 #[.string (bs o.w), .int .i64 (o.id : Int), .int .i64 (o.n : Int), .slice A2 o.b.length c2]).at_eq (by rw [World.size_alloc, World.size_alloc])).sl 0) j u hu); cases h; exact hc) (by intro u hu; simp at hu; rcases hu with rfl | rfl | rfl | rfl <;> rfl) (by unfold maxLen; omega) (by omega) (by have h1 := P7.out.size; have h2 := HB2.out.size; simp; omega) ?_; intro v5 w5 ho5 hg5 _; have hown5 := (((own_below HA1.out HB2.out (Nat.le_refl _)).alloc (.cells #[.string (bs o.w), .int .i64 (o.id : Int), .int .i64 (o.n : Int), .slice A2 o.b.length c2] 24)).alloc (.cells #[.int .i64 0, .int .i64 0] 34)).alloc (.cells #[.string (bs o.w), .int .i64 (o.id : Int), .int .i64 (o.n : Int), .slice A2 o.b.length c2] 24); have HK5 := Lib.hid (show ∀ g t cs, t ≠ 24 → Blk w2 g t cs → Blk w5 g t cs from fun g t cs ht h => (((h.alloc (.cells #[.string (bs o.w), .int .i64 (o.id : Int), .int .i64 (o.n : Int), .slice A2 o.b.length c2] 24)).alloc (.cells #[.int .i64 0, .int .i64 0] 34)).alloc (.cells #[.string (bs o.w), .int .i64 (o.id : Int), .int .i64 (o.n : Int), .slice A2 o.b.length c2] 24)).grown hg5 (fun e => own_blk_ne hown5 (((h.alloc (.cells #[.string (bs o.w), .int .i64 (o.id : Int), .int .i64 (o.n : Int), .slice A2 o.b.length c2] 24)).alloc (.cells #[.int .i64 0, .int .i64 0] 34)).alloc (.cells #[.string (bs o.w), .int .i64 (o.id : Int), .int .i64 (o.n : Int), .slice A2 o.b.length c2] 24)) (Ne.symm ht) e)); have P3c := HK5.out _ _ _ (by decide) (P3.out.below HB2.out P3.out.lt); have y3 := P3c.cell 0; have g3 := P3c.frozen 0; have P5c := HK5.out _ _ _ (by decide) (P5.out.below HB2.out P5.out.lt); have y5 := P5c.cell 0; have g5 := P5c.frozen 0; have HG5 := Lib.hid hg5; have HOW5 := Lib.hid ho5; obtain ⟨ga5, ca5, rfl, _⟩ := own_pos ho5 (by omega); clear hg5 ho5 P3c P5c hown5))
        have hown5 := (((own_below HA1.out HB2.out (Nat.le_refl _)).alloc (.cells #[.string (bs o.w), .int .i64 (o.id : Int), .int .i64 (o.n : Int), .slice A2 o.b.length c2] 24)).alloc (.cells #[.int .i64 0, .int .i64 0] 34)).alloc (.cells #[.string (bs o.w), .int .i64 (o.id : Int), .int .i64 (o.n : Int), .slice A2 o.b.length c2] 24)
        have hk : ∀ g t cs, t ≠ 24 → Blk W g t cs → Blk w5 g t cs := fun g t cs ht h => HK5.out g t cs ht (h.below HB2.out h.lt)
        have e3 : ∀ g, g < w.heap.size + 3 → g ≠ w.heap.size + 3 := fun g hg => Nat.ne_of_lt hg
        have e2 : ∀ g, g < w.heap.size + 2 → g ≠ w.heap.size + 2 := fun g hg => Nat.ne_of_lt hg
        have hk6 : ∀ g t cs, t ≠ 37 → t ≠ 3 → Blk w5 g t cs → Blk ((w5.setCell ⟨w.heap.size + 2, 0, none⟩ (.slice (some ⟨ga5, 0, none⟩) (os.length + 1) ca5)).setCell ⟨w.heap.size + 3, 0, none⟩ (.int .i64 ((k : Int) + ((x.length : Int) + 1)))) g t cs := fun g t cs h1 h2 h => (h.far (p := ⟨w.heap.size + 2, 0, none⟩) (blk_ne h (hk _ _ _ (by decide) P3.out) h1) _).far (p := ⟨w.heap.size + 3, 0, none⟩) (blk_ne h (hk _ _ _ (by decide) P5.out) h2) _
        have kz : ∀ g, W0.heap.size ≤ g → g ≠ w.heap.size + 2 ∧ g ≠ w.heap.size + 3 := fun g hg => ⟨by omega, by omega⟩
        have far2 : ∀ {g t cs}, g ≠ w.heap.size + 2 → g ≠ w.heap.size + 3 → Blk w5 g t cs → Blk ((w5.setCell ⟨w.heap.size + 2, 0, none⟩ (.slice (some ⟨ga5, 0, none⟩) (os.length + 1) ca5)).setCell ⟨w.heap.size + 3, 0, none⟩ (.int .i64 ((k : Int) + ((x.length : Int) + 1)))) g t cs := fun h1 h2 h => (h.far (p := ⟨w.heap.size + 2, 0, none⟩) h1 _).far (p := ⟨w.heap.size + 3, 0, none⟩) h2 _
        have hk1 : KeepsFrom w1.heap.size W ((w5.setCell ⟨w.heap.size + 2, 0, none⟩ (.slice (some ⟨ga5, 0, none⟩) (os.length + 1) ca5)).setCell ⟨w.heap.size + 3, 0, none⟩ (.int .i64 ((k : Int) + ((x.length : Int) + 1)))) :=
          (((((Stp.of_below (L := W0.heap.size) HB2.out).alloc (.cells #[.string (bs o.w), .int .i64 (o.id : Int), .int .i64 (o.n : Int), .slice A2 o.b.length c2] 24)).alloc (.cells #[.int .i64 0, .int .i64 0] 34)).alloc (.cells #[.string (bs o.w), .int .i64 (o.id : Int), .int .i64 (o.n : Int), .slice A2 o.b.length c2] 24)).keeps hW1).trans ((keeps_grown hown5 HG5.out).trans ((((Stp.refl W0.heap.size w5).set (p := ⟨w.heap.size + 2, 0, none⟩) (by show w.heap.size + 2 < W0.heap.size; omega) _).set (p := ⟨w.heap.size + 3, 0, none⟩) (by show w.heap.size + 3 < W0.heap.size; omega) _).keeps hW1))
        have n1' := far2 (kz b1 hl1).1 (kz b1 hl1).2 (hk _ _ _ (by decide) h5)
        have n2' := far2 (kz b2 hl2).1 (kz b2 hl2).2 (hk _ _ _ (by decide) P6.out)
        have n3' := far2 (kz b3 hl3).1 (kz b3 hl3).2 (hk _ _ _ (by decide) h6)
        refine ⟨hk1, ⟨n1'.trans h5.symm, n2'.trans P6.out.symm, n3'.trans h6.symm⟩, (k + (x.length + 1), os ++ [o]), HQ.out, HTN.out, ?_, ⟨.slice (some ⟨ga5, 0, none⟩) (os.length + 1) ca5, z, far2 (by omega) (by omega) (hk _ _ _ (by decide) P1.out), far2 (by omega) (by omega) (hk _ _ _ (by decide) P2.out), ?_, ⟨vs ++ [.slice A2 o.b.length c2], ?_, ?_⟩, ?_, n2', ?_⟩, ?_, ⟨c1, n1'⟩, ⟨c3, n3'⟩⟩
        · show (os ++ [o]).length ≤ _
          rw [← HTN.out, List.length_append]; simp; omega
        · exact ((hk _ _ _ (by decide) P3.out).set_ 0 _).far (p := ⟨w.heap.size + 3, 0, none⟩) (by show w.heap.size + 2 ≠ w.heap.size + 3; omega) _
        · show World.ownsRow _ _ _ _ _ (os ++ [o]).length (cellsOf (os ++ [o]) _)
          rw [List.length_append, cellsOf_snoc o _ os vs HO1.out.len]
          exact own_set (own_set HOW5.out _ _ (own_blk_ne HOW5.out (hk _ _ _ (by decide) P3.out) (by decide))) _ _ (own_blk_ne HOW5.out (hk _ _ _ (by decide) P5.out) (by decide))
        · exact (HO1.out.kept (fun g cs h => hk6 g _ cs (by decide) (by decide) (hk g _ cs (by decide) h))).snoc (own_kept5 (own_mono HO2.out P7.out.size) (fun g cs h => hk6 g _ cs (by decide) (by decide) (HK5.out g _ cs (by decide) h)))
        · show Blk _ _ _ #[.int .i64 ((k + (x.length + 1) : Nat) : Int)]
          rw [HKI.out]
          exact ((hk _ _ _ (by decide) P5.out).far (p := ⟨w.heap.size + 2, 0, none⟩) (by show w.heap.size + 3 ≠ w.heap.size + 2; omega) _).set_ 0 _
        · exact ((below_app ((((P7.out.trans (HB2.out.mono P7.out.size)).alloc (Nat.le_trans P7.out.size HB2.out.size) _).alloc (by have h1 := P7.out.size; have h2 := HB2.out.size; rw [World.size_alloc]; omega) _).alloc (by have h1 := P7.out.size; have h2 := HB2.out.size; rw [World.size_alloc, World.size_alloc]; omega) _) hown5 HG5.out (by have h1 := P7.out.size; have h2 := HB2.out.size; simp; omega) (Nat.le_refl _)).setCell (p := ⟨w.heap.size + 2, 0, none⟩) (by show w.heap.size ≤ w.heap.size + 2; omega) _).setCell (p := ⟨w.heap.size + 3, 0, none⟩) (by show w.heap.size ≤ w.heap.size + 3; omega) _
        · rw [World.size_setCell, World.size_setCell]
          have h1 := HG5.out.size; have h2 := HB2.out.size
          simp at h1
          omega
    · have HI := Lib.hid (show AllI w b1 b2 b3 w1.heap.size (pre ++ [x]) (W.setCell ⟨w.heap.size + 3, 0, none⟩ (.int .i64 ((k : Int) + ((x.length : Int) + 1)))) from by
        have e3 : ∀ g, g < w.heap.size + 3 → g ≠ w.heap.size + 3 := fun g hg => Nat.ne_of_lt hg
        refine ⟨(k + (x.length + 1), os), hnext _ (by unfold stepA; rw [if_neg hcond]), htn, by show os.length ≤ _; rw [← htn]; omega, ⟨v, z, p1.far (p := ⟨w.heap.size + 3, 0, none⟩) (e3 _ (by omega)) _, p2.far (p := ⟨w.heap.size + 3, 0, none⟩) (e3 _ (by omega)) _, p3.far (p := ⟨w.heap.size + 3, 0, none⟩) (e3 _ (by omega)) _, p4.kept (fun g t cs ht h => h.far (p := ⟨w.heap.size + 3, 0, none⟩) (blk_ne h p5 (by rcases ht with rfl | rfl <;> decide)) _), ?_, p6.far (p := ⟨w.heap.size + 3, 0, none⟩) (blk_ne p6 p5 (by decide)) _, p7.setCell (p := ⟨w.heap.size + 3, 0, none⟩) (by show w.heap.size ≤ w.heap.size + 3; omega) _⟩, by rw [World.size_setCell]; exact hn1, ⟨c1, h5.far (p := ⟨w.heap.size + 3, 0, none⟩) (by show b1 ≠ w.heap.size + 3; omega) _⟩, ⟨c3, h6.far (p := ⟨w.heap.size + 3, 0, none⟩) (by show b3 ≠ w.heap.size + 3; omega) _⟩⟩
        show Blk _ _ _ #[.int .i64 ((k + (x.length + 1) : Nat) : Int)]
        rw [hkI]
        exact p5.set_ 0 _)
      have hst5 := (Stp.refl W0.heap.size W).set (p := ⟨w.heap.size + 3, 0, none⟩) (by show w.heap.size + 3 < W0.heap.size; omega) (.int .i64 ((k : Int) + ((x.length : Int) + 1)))
      have HST := Lib.hid hst5
      clear p1 p2 p3 p4 p5 p6 p7 hnext hrun hkI hst5 hpos htn hsp
      by_cases hnil : x = []
      · have hx0 : ((x.length : Int) + 1) = 1 := by rw [hnil]; rfl
        rw [hx0] at HST HI
        clear hx0
        subst hnil
        clear hcond
        gi_wp2_with fail
        exact ⟨HST.out.keeps hW1, HST.out.kept hl1 hl2 hl3 (Nat.lt_of_lt_of_le hs1.lt hn1) (Nat.lt_of_lt_of_le hs2.lt hn1) (Nat.lt_of_lt_of_le hs3.lt hn1), HI.out⟩
      · have hpx : 0 < x.length := List.length_pos_iff.2 hnil
        have h35 : x[0] = 35 := by
          have h1 : ¬ x.getD 0 0 ≠ 35 := fun h => hcond ⟨hnil, h⟩
          rw [List.getD, List.getElem?_eq_getElem hpx, Option.getD_some] at h1
          exact Classical.not_not.1 h1
        have q35 : ((x[0].toNat : Int) != 35) = false := by rw [h35]; rfl
        have qn : (x == []) = false := beq_eq_false_iff_ne.2 hnil
        have hpi : (0 : Int) < (x.length : Int) := by omega
        clear hcond h35 hnil
        gi_wp2_with fail
        exact ⟨HST.out.keeps hW1, HST.out.kept hl1 hl2 hl3 (Nat.lt_of_lt_of_le hs1.lt hn1) (Nat.lt_of_lt_of_le hs2.lt hn1) (Nat.lt_of_lt_of_le hs3.lt hn1), HI.out⟩
end Go.Proofs.YthcbidbhkikhmaaDoor
