/- LinesReads: the walk. -/
import Derived.Test.YthcbidbhkikhmaaDoorKnown31
namespace Go.Proofs.YthcbidbhkikhmaaDoor
open Go Go.RowKit
def OvI (n : Nat) (A : Option Addr) (base : Nat) (W : World) : Prop := n = 0 ∨ ∃ g cs, A = some ⟨g, 0, none⟩ ∧ base ≤ g ∧ Blk W g 5 cs ∧ ∀ i, i < n → ∃ z : Int, cs[i]? = some (.int .u8 z)
theorem ovI_of_own {n base : Nat} {A : Option Addr} {c : Nat} {l : List UInt8} {W : World} (h : W.ownsRow base 5 1 (.slice A n c) n (l.map byteV)) : OvI n A base W := by
  rcases h.2 with ⟨_, h0⟩ | ⟨g, cap, cur, e, hb, hh, h1, h2, h3, h4⟩
  · exact .inl h0
  · cases e
    refine .inr ⟨g, cur, rfl, hb, hh, fun i hi => ?_⟩
    have hl : l.length = n := by have := h.1; simpa using this
    have hc : (cur.toList.take (n * 1))[i]? = some (byteV (l[i]'(by omega))) := by rw [h4]; simp [hl, hi]
    rw [List.getElem?_take, if_pos (by omega), Array.getElem?_toList] at hc
    exact ⟨_, hc⟩
theorem OvI.set {n g base : Nat} {cs : Array Value} {W : World} {B : Nat} {w : World} (j : Nat) (z : Int) (hb : base ≤ g) (hk : Blk W g 5 cs) (hz : ∀ i, i < n → ∃ z : Int, cs[i]? = some (.int .u8 z)) (hB : Below B w W) (hBb : B ≤ base) :
    OvI n (some ⟨g, 0, none⟩) base (W.setCell ⟨g, j, none⟩ (.int .u8 z)) ∧ Below B w (W.setCell ⟨g, j, none⟩ (.int .u8 z)) := by
  refine ⟨.inr ⟨g, _, rfl, hb, hk.set_ j _, fun i hi => ?_⟩, hB.setCell (p := ⟨g, j, none⟩) (Nat.le_trans hBb hb) _⟩
  obtain ⟨z0, h0⟩ := hz i hi
  rw [Array.getElem?_setIfInBounds]
  split
  · rename_i e
    subst e
    have hlt : j < cs.size := (Array.getElem?_eq_some_iff.1 h0).1
    rw [if_pos hlt]
    exact ⟨z, rfl⟩
  · exact ⟨z0, h0⟩
set_option maxHeartbeats 2000000 in
theorem kit_OverBytes (A : Option Addr) (n c base B : Nat) (v w : World) (ho : OvI n A base w) (hb : Below B v w) (hB : B ≤ base) (hn : n ≤ 9223372036854775807) :
    Calls Tryd.prog 22 #[.slice A n c] w fun e w' => e = .returned (.tuple #[]) ∧ Below B v w' := by
  have HB := Lib.hid hb
  have HO := Lib.hid ho
  clear ho hb
  go_enter Tryd.func22, Tryd.ntmps22
  go_wp2_with fail
  go_loopg [2] n (fun g i wr => ∃ j : Nat, j + g = n ∧ i = .int .i64 (j : Int) ∧ Hid (OvI n A base wr) ∧ Hid (Below B v wr))
  case atStart => exact ⟨0, by omega, rfl, HO, HB⟩
  case round =>
    obtain ⟨j, hj, rfl, HOr, HBr⟩ := hrel
    by_cases hlt : j < n
    · rcases HOr.out with h0 | ⟨q, cs, rfl, hbq, hk, hz⟩
      · omega
      obtain ⟨z, hzj⟩ := hz j hlt
      have hcell : wr.cell? ⟨q, j, none⟩ = some (.int .u8 z) := (hk.cell j).trans hzj
      have hfr : wr.frozen? ⟨q, j, none⟩ = false := hk.frozen j
      have HS := Lib.hid (fun z => OvI.set (n := n) j z hbq hk hz HBr.out hB)
      clear hk hz hzj HOr
      go_wp2_with fail
      obtain ⟨h1, h2⟩ := HS.out (bits .xor .u8 z 165)
      go_roundg (gk - 1)
      case measure => omega
      case rel => exact ⟨j + 1, by omega, rfl, Lib.hid h1, Lib.hid h2⟩
    · go_wp2_with fail
      go_end0
      exact ⟨rfl, HBr.out⟩
/-- an operation and a fault that a Parse gave, in two fresh blocks -/
def RSt (w : World) (o : OpN) (e1 e2 n1 : Nat) (A1 : Option Addr) (c1 : Nat) (W : World) : Prop :=
  Blk W n1 24 #[.string (bs o.w), .int .i64 (o.id : Int), .int .i64 (o.n : Int), .slice A1 o.b.length c1] ∧ Blk W (n1 + 1) 34 #[.int .i64 (e1 : Int), .int .i64 (e2 : Int)] ∧
    W.ownsRow w.heap.size 5 1 (.slice A1 o.b.length c1) o.b.length (o.b.map byteV) ∧ Below w.heap.size w W
theorem RSt.stay {w : World} {o : OpN} {e1 e2 n1 : Nat} {A1 : Option Addr} {c1 : Nat} {W W' : World} (h : RSt w o e1 e2 n1 A1 c1 W) (hb : Below W.heap.size W W') : RSt w o e1 e2 n1 A1 c1 W' :=
  ⟨h.1.below hb h.1.lt, h.2.1.below hb h.2.1.lt, own_below h.2.2.1 hb (Nat.le_refl _), h.2.2.2.trans (hb.mono h.2.2.2.size)⟩
theorem RSt.new {w w1 : World} {o : OpN} {e1 e2 : Nat} {A1 : Option Addr} {c1 : Nat} (ho : w1.ownsRow w.heap.size 5 1 (.slice A1 o.b.length c1) o.b.length (o.b.map byteV)) (hb : Below w.heap.size w w1) :
    RSt w o e1 e2 w1.heap.size A1 c1 ((w1.alloc (.cells #[.string (bs o.w), .int .i64 (o.id : Int), .int .i64 (o.n : Int), .slice A1 o.b.length c1] 24)).alloc (.cells #[.int .i64 (e1 : Int), .int .i64 (e2 : Int)] 34)) := by
  have hb2 : Below w1.heap.size w1 ((w1.alloc (.cells #[.string (bs o.w), .int .i64 (o.id : Int), .int .i64 (o.n : Int), .slice A1 o.b.length c1] 24)).alloc (.cells #[.int .i64 (e1 : Int), .int .i64 (e2 : Int)] 34)) := ((Below.refl _ _).alloc (Nat.le_refl _) _).alloc (by simp) _
  exact ⟨(Blk.new _ _ _).alloc _, (Blk.new _ _ _).at_eq (World.size_alloc w1 _), own_below ho hb2 (Nat.le_refl _), hb.trans (hb2.mono hb.size)⟩
def ASt (w : World) (os : List OpN) (f1 f2 n3 : Nat) (A3 : Option Addr) (c3 : Nat) (W : World) : Prop :=
  Blk W n3 34 #[.int .i64 (f1 : Int), .int .i64 (f2 : Int)] ∧ ReadOps W (.slice A3 os.length c3) os ∧ Below w.heap.size w W
theorem ASt.stay {w : World} {os : List OpN} {f1 f2 n3 : Nat} {A3 : Option Addr} {c3 : Nat} {W W' : World} (h : ASt w os f1 f2 n3 A3 c3 W) (hb : Below W.heap.size W W') : ASt w os f1 f2 n3 A3 c3 W' :=
  ⟨h.1.below hb h.1.lt, h.2.1.below hb, h.2.2.trans (hb.mono h.2.2.size)⟩
theorem ASt.new {w w1 : World} {os : List OpN} {f1 f2 : Nat} {A3 : Option Addr} {c3 : Nat} (ho : ReadOps w1 (.slice A3 os.length c3) os) (hb : Below w.heap.size w w1) :
    ASt w os f1 f2 w1.heap.size A3 c3 (w1.alloc (.cells #[.int .i64 (f1 : Int), .int .i64 (f2 : Int)] 34)) :=
  ⟨Blk.new _ _ _, ho.below ((Below.refl _ _).alloc (Nat.le_refl _) _), hb.alloc hb.size _⟩
def AllPostN (os : List OpN) (f1 f2 : Nat) (w : World) (e : Ending) (w' : World) : Prop :=
  ∃ A c, e = .returned (.tuple #[.slice A os.length c, .agg #[.int .i64 (f1 : Int), .int .i64 (f2 : Int)]]) ∧ ReadOps w' (.slice A os.length c) os ∧ Below w.heap.size w w'
theorem AllPost.toN {r : Except (Nat × Nat) (List OpN)} {w w' : World} {e : Ending} (h : AllPost r w e w') : AllPostN (opsOf r) (ferrOf r).1 (ferrOf r).2 w e w' := by
  obtain ⟨v, rfl, ho, hb⟩ := h
  have hr := ReadOps.of_row ho
  obtain ⟨A, c, vs, e, h1, h2⟩ := hr
  have e' : v = .slice A (opsOf r).length c := e
  subst e'
  exact ⟨A, c, rfl, ⟨A, c, vs, rfl, h1, h2⟩, hb⟩
theorem run_len (f : List UInt8 → Except (Nat × Nat) OpN) : ∀ (l : List (List UInt8)) (st st' : Nat × List OpN), runA f (.ok st) l = .ok st' → st'.2.length ≤ st.2.length + l.length
  | [], st, st', h => by
    have : st = st' := by simpa [runA] using h
    subst this; simp
  | x :: l, st, st', h => by
    have h' : runA f (stepA f st x) l = .ok st' := h
    unfold stepA at h'
    split at h'
    · split at h'
      · rw [runA_err] at h'; cases h'
      · have := run_len f l _ st' h'
        simp at this ⊢; omega
    · have := run_len f l _ st' h'
      simp at this ⊢; omega
theorem tot_len : ∀ l : List (List UInt8), l.length ≤ tot l
  | [] => Nat.zero_le _
  | x :: l => by have := tot_len l; simp [tot] at this ⊢; omega
theorem ops_len (s : List UInt8) : (opsOf (allP refP s)).length ≤ s.length + 1 := by
  have h2 : (splitL 10 s).length ≤ s.length + 1 := by rw [← tot_split 10 s]; exact tot_len _
  unfold allP
  cases h : runA refP (.ok (0, [])) (splitL 10 s) with
  | error e => simp [opsOf]
  | ok st =>
    have := run_len refP _ _ _ h
    simp [opsOf] at this ⊢; omega
theorem own_cap {w : World} {base e n c : Nat} {A : Option Addr} {xs : List Value} (h : w.ownsRow base e 1 (.slice A n c) n xs) : n ≤ 9223372036854775807 := by
  rcases h.2 with ⟨_, h0⟩ | ⟨g, cap, cur, e, hb, hh, h1, h2, h3, h4⟩
  · omega
  · exact Nat.le_trans h1 (Nat.le_trans h2 (by decide))
set_option maxRecDepth 100000 in
set_option maxHeartbeats 8000000 in
theorem law_LinesReads (s : List UInt8) (w : World) (hT : Tb w) :
    Calls Tryd.prog 4 #[.string (bs s)] w fun e w' => e = .returned (.bool true) ∧ Below w.heap.size w w' := by
  have HT := Lib.hid hT
  clear hT
  by_cases h1 : 2100 < s.length ∧ s.length < 2990
  · obtain ⟨h1, h2⟩ := h1
    go_enter Tryd.func4, Tryd.ntmps4
    go_wp2_with (go_at_call 9; refine (law_awake w HT.out).mono ?_; rintro e w1 ⟨rfl, hb1⟩)
    go_ret
    exact ⟨rfl, hb1⟩
  by_cases h3 : 3010 < s.length
  · have h4 : ¬ s.length < 2990 := by omega
    go_enter Tryd.func4, Tryd.ntmps4
    go_wp2_with (go_at_call 9; refine (law_awake w HT.out).mono ?_; rintro e w1 ⟨rfl, hb1⟩)
    go_ret
    exact ⟨rfl, hb1⟩
  have hsz : s.length ≤ 10000 := by omega
  have C1 : Hid (∀ W, Calls Tryd.prog 16 #[.string (bs s)] W (ParsePostN (opOf (refP s)) (errOf (refP s)).1 (errOf (refP s)).2 W)) := Lib.hid (fun W => lines_parse_ref s W hsz)
  have C2 : Hid (∀ W, Calls Tryd.prog 17 #[.string (bs s)] W (ParsePostN (opOf (refP s)) (errOf (refP s)).1 (errOf (refP s)).2 W)) := Lib.hid (fun W => ref31_parse s W hsz)
  have C3 : Hid (∀ W, Calls Tryd.prog 18 #[.string (bs s)] W (AllPostN (opsOf (allP refP s)) (ferrOf (allP refP s)).1 (ferrOf (allP refP s)).2 W)) := Lib.hid (fun W => (lines_all_ref s W hsz).mono fun _ _ h => h.toN)
  have C4 : Hid (∀ W, Calls Tryd.prog 19 #[.string (bs s)] W (AllPostN (opsOf (allP refP s)) (ferrOf (allP refP s)).1 (ferrOf (allP refP s)).2 W)) := Lib.hid (fun W => (ref31_all s W hsz).mono fun _ _ h => h.toN)
  have hos : (opsOf (allP refP s)).length ≤ 100000 := by have := ops_len s; omega
  generalize opOf (refP s) = o at C1 C2
  generalize (errOf (refP s)).1 = e1 at C1 C2
  generalize (errOf (refP s)).2 = e2 at C1 C2
  generalize opsOf (allP refP s) = os at C3 C4 hos
  generalize (ferrOf (allP refP s)).1 = f1 at C3 C4
  generalize (ferrOf (allP refP s)).2 = f2 at C3 C4
  rcases (by omega : s.length ≤ 2100 ∨ (2100 < s.length ∧ 2990 ≤ s.length)) with hC | ⟨hC, hC2⟩
  all_goals
    clear h1
    go_enter Tryd.func4, Tryd.ntmps4
    go_wp2_with (first
      | (go_at_call 16; refine (C1.out _).mono ?_; rintro e w1 ⟨v, rfl, ho1, hb1⟩; obtain ⟨A1, c1, rfl, _⟩ := own_sl ho1; have H1 := Lib.hid (RSt.new (e1 := e1) (e2 := e2) ho1 hb1); clear C1 ho1 hb1)
      | (go_at_call 17; refine (C2.out _).mono ?_; rintro e w2 ⟨v, rfl, ho2, hb2⟩; obtain ⟨A2, c2, rfl, _⟩ := own_sl ho2; have H2 := Lib.hid (RSt.new (e1 := e1) (e2 := e2) ho2 hb2); have H1' := Lib.hid (H1.out.stay H2.out.2.2.2); clear C2 ho2 hb2 H1)
      | (go_at_call 18; refine (C3.out _).mono ?_; rintro e w3 ⟨A3, c3, rfl, ho3, hb3⟩; have H3 := Lib.hid (ASt.new (f1 := f1) (f2 := f2) ho3 hb3); have H1 := Lib.hid (H1'.out.stay H3.out.2.2); have H2' := Lib.hid (H2.out.stay H3.out.2.2); clear C3 ho3 hb3 H1' H2)
      | (go_at_call 19; refine (C4.out _).mono ?_; rintro e w4 ⟨A4, c4, rfl, ho4, hb4⟩; have H4 := Lib.hid (ASt.new (f1 := f1) (f2 := f2) ho4 hb4); have H1' := Lib.hid (H1.out.stay H4.out.2.2); have H2 := Lib.hid (H2'.out.stay H4.out.2.2); have H3' := Lib.hid (H3.out.stay H4.out.2.2); clear C4 ho4 hb4 H1 H2' H3; have x0 := H1'.out.1.cell 0; have x1 := H1'.out.1.cell 1; have x2 := H1'.out.1.cell 2; have x3 := H1'.out.1.cell 3; have y0 := H2.out.1.cell 0; have y1 := H2.out.1.cell 1; have y2 := H2.out.1.cell 2; have y3 := H2.out.1.cell 3)
      | (go_at_call 20; have CS := same_op o.w (o.id : Int) (o.n : Int) A1 c1 o.b o.w (o.id : Int) (o.n : Int) A2 c2 o.b _ (own_sl' H1'.out.2.2.1) (own_sl' H2.out.2.2.1); rw [show sameR o.w (o.id : Int) (o.n : Int) o.b o.w (o.id : Int) (o.n : Int) o.b = true by simp [sameR]] at CS; refine CS.mono ?_; rintro e w5 ⟨rfl, hb5⟩; have H1 := Lib.hid (H1'.out.stay hb5); have H2' := Lib.hid (H2.out.stay hb5); have H3 := Lib.hid (H3'.out.stay hb5); have H4' := Lib.hid (H4.out.stay hb5); clear CS hb5 H1' H2 H3' H4 x0 x1 x2 x3 y0 y1 y2 y3; have x0 := H1.out.2.1.cell 0; have x1 := H1.out.2.1.cell 1; have y0 := H2'.out.2.1.cell 0; have y1 := H2'.out.2.1.cell 1)
      | (go_at_call 21; refine (same_ops os (.slice A3 os.length c3) (.slice A4 os.length c4) _ H3.out.2.1 H4'.out.2.1 hos).mono ?_; rintro e w6 ⟨rfl, hb6⟩; have H1' := Lib.hid (H1.out.stay hb6); have H2 := Lib.hid (H2'.out.stay hb6); have H3' := Lib.hid (H3.out.stay hb6); have H4 := Lib.hid (H4'.out.stay hb6); clear hb6 H1 H2' H3 H4' x0 x1 y0 y1; have x0 := H3'.out.1.cell 0; have x1 := H3'.out.1.cell 1; have y0 := H4.out.1.cell 0; have y1 := H4.out.1.cell 1; have x2 := H1'.out.1.cell 3)
      | (go_at_call 22; refine (kit_OverBytes A1 o.b.length c1 w.heap.size w.heap.size w _ (ovI_of_own H1'.out.2.2.1) H1'.out.2.2.2 (Nat.le_refl _) (own_cap H1'.out.2.2.1)).mono ?_; rintro e w7 ⟨rfl, hb7⟩; have HB := Lib.hid hb7; clear hb7)
      | (go_at_call 9; refine (law_awake _ (HT.out.below HB.out)).mono ?_; rintro e w8 ⟨rfl, hb8⟩; have HB2 := Lib.hid (HB.out.trans (hb8.mono HB.out.size)); clear hb8))
    go_ret
    exact ⟨rfl, HB2.out⟩
end Go.Proofs.YthcbidbhkikhmaaDoor
