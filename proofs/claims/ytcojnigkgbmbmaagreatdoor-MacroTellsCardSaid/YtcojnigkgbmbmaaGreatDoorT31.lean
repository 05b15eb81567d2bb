/- MGet, Copy -/
import Derived.Test.YtcojnigkgbmbmaaGreatDoorT30
import Derived.Test.YtcojnigkgbmbmaaGreatDoorT02
namespace Go.Proofs.YtcojnigkgbmbmaaGreatDoor
open Go Go.RowKit
attribute [local go_sem] Oper.semAt_some
def MgC (m : MacM) (v : Value) : Array Value := #[.int .i64 m.ad, .int .i64 m.kd, .int .i64 m.qu, .int .i64 m.x, .int .i64 m.y, .int .i64 m.pa, v]
structure MGPost (w : World) (r : MacM × Int × Int) (e : Ending) (W' : World) : Prop where
  below : Below w.heap.size w W'
  ex : ∃ v, ∃ xs : List BkE, e = .returned (.tuple #[.agg (MgC r.1 v), .int .i64 r.2.1, .int .i64 r.2.2]) ∧ r.1.bl = xs.map (·.1) ∧ W'.ownsRow w.heap.size 81 2 v xs.length (rowC bkC xs) ∧ ∀ p ∈ xs, W'.ownsRow w.heap.size 109 2 (.slice p.2.1 p.1.l.length p.2.2) p.1.l.length (rowC pairC p.1.l)
theorem mget_res (h : Nat) (m : MacM) (v : Value) (n e : Int) (tmps : Array Value) (W : World) (hb : Blk W h 29 (MgC m v)) (t8 : tmps.getD 8 undef = .pointer (some ⟨h, 0, none⟩)) (t9 : tmps.getD 9 undef = .int .i64 n) (t10 : tmps.getD 10 undef = .int .i64 e) :
    (results Tryz.f11 tmps).run Tryz.prog W = .ok (.tuple #[.agg (MgC m v), .int .i64 n, .int .i64 e]) W := by
  unfold MgC at *
  have c0 := hb.cell 0; have c1 := hb.cell 1; have c2 := hb.cell 2; have c3 := hb.cell 3; have c4 := hb.cell 4; have c5 := hb.cell 5; have c6 := hb.cell 6
  simp at c0 c1 c2 c3 c4 c5 c6
  have t8' : tmps[8]?.getD undef = .pointer (some ⟨h, 0, none⟩) := by simpa using t8
  have t9' : tmps[9]?.getD undef = .int .i64 n := by simpa using t9
  have t10' : tmps[10]?.getD undef = .int .i64 e := by simpa using t10
  simp [results, Tryz.results11, t8', t9', t10', asAddr, c0, c1, c2, c3, c4, c5, c6, go_sem]
theorem mg_zero {W : World} {h : Nat} {m : MacM} {v : Value} (hb : Blk W h 29 (MgC m v)) (a : MacM) (u : Value) : Blk (((((((W.setCell ⟨h, 0, none⟩ (.int .i64 a.ad)).setCell ⟨h, 1, none⟩ (.int .i64 a.kd)).setCell ⟨h, 2, none⟩ (.int .i64 a.qu)).setCell ⟨h, 3, none⟩ (.int .i64 a.x)).setCell ⟨h, 4, none⟩ (.int .i64 a.y)).setCell ⟨h, 5, none⟩ (.int .i64 a.pa)).setCell ⟨h, 6, none⟩ u) h 29 (MgC a u) := by
  have h1 := ((((((hb.set_ 0 (.int .i64 a.ad)).set_ 1 (.int .i64 a.kd)).set_ 2 (.int .i64 a.qu)).set_ 3 (.int .i64 a.x)).set_ 4 (.int .i64 a.y)).set_ 5 (.int .i64 a.pa)).set_ 6 u
  unfold MgC at *
  simp only [List.setIfInBounds_toArray, List.set_cons_zero, List.set_cons_succ] at h1
  exact h1
theorem mg_below {w W : World} {h : Nat} (hb : Below w.heap.size w W) (hh : w.heap.size ≤ h) (a : MacM) (u : Value) : Below w.heap.size w (((((((W.setCell ⟨h, 0, none⟩ (.int .i64 a.ad)).setCell ⟨h, 1, none⟩ (.int .i64 a.kd)).setCell ⟨h, 2, none⟩ (.int .i64 a.qu)).setCell ⟨h, 3, none⟩ (.int .i64 a.x)).setCell ⟨h, 4, none⟩ (.int .i64 a.y)).setCell ⟨h, 5, none⟩ (.int .i64 a.pa)).setCell ⟨h, 6, none⟩ u) :=
  ((((((hb.setCell hh _).setCell hh _).setCell hh _).setCell hh _).setCell hh _).setCell hh _).setCell hh _
theorem mg_fail {w W : World} (e : Int) (hb : Below w.heap.size w W) : MGPost w (m0, 0, e) (.returned (.tuple #[.agg (MgC m0 (.slice none 0 0)), .int .i64 0, .int .i64 e])) W :=
  ⟨hb, .slice none 0 0, [], rfl, rfl, World.ownsRow_nil _ _ _ _, fun p hp => by cases hp⟩
theorem RdI.setE {w0 W : World} {g ge : Nat} {A : Option Addr} {n c : Nat} {l : List UInt8} {s0 : RdS} {L : List CellF} {ts : List Nat} {u : Nat} {cs : Array Value} (h : RdI w0 g A n c l s0 L ts u W) (hge : w0.heap.size ≤ ge) (hb : Blk W ge 30 cs) (v : Value) (hL : CellsAt L (W.setCell ⟨ge, 0, none⟩ v)) : RdI w0 g A n c l s0 L ts u (W.setCell ⟨ge, 0, none⟩ v) := by
  obtain ⟨⟨s, bl, v', xs, h1, hr, h3⟩, hc⟩ := h
  refine ⟨⟨s, bl, v', xs, h1, ⟨hr.below.setCell (p := ⟨ge, 0, none⟩) hge _, hr.cell.far (p := ⟨ge, 0, none⟩) (blk_ne hr.cell hb (by simp)) v, ?_, fun q hq => ?_⟩, h3⟩, hL⟩
  · exact own_keep hr.row (fun g' cs' hb' => hb'.far (p := ⟨ge, 0, none⟩) (blk_ne hb' hb (by simp)) v)
  · exact own_keep (hr.bl q hq) (fun g' cs' hb' => hb'.far (p := ⟨ge, 0, none⟩) (blk_ne hb' hb (by simp)) v)
structure MgX (w : World) (g : Nat) (A : Option Addr) (n c : Nat) (pt : Bool × Bool × Bool × Bool × Bool) (x y : Int) (bc h8 ge : Nat) (E : Int) (cd : Code) (W : World) : Prop where
  cd : cd = .exit 1
  ne : E ≠ 0
  st : StS g A n c pt x y [(bc, 57, #[.pointer (some ⟨g, 0, none⟩)])] W
  mm : Blk W h8 29 (MgC m0 (.slice none 0 0))
  ee : Blk W ge 30 #[.int .i64 E]
  below : Below w.heap.size w W
theorem mgx_own {w : World} {g : Nat} {A : Option Addr} {n c : Nat} {pt : Bool × Bool × Bool × Bool × Bool} {x y : Int} {bc h8 ge : Nat} {E : Int} {cd : Code} {B : Nat} (hB : w.heap.size ≤ B) : OwnFrom B (fun (_ : List SEl) W => MgX w g A n c pt x y bc h8 ge E cd W) := by
  rintro pre W W' row ⟨h1, h2, ⟨h3, s, h4, h5⟩, h6, h7, h8'⟩ hg hrow
  exact ⟨h1, h2, ⟨h3.grown hg (fun r e => (hrow r e).2), s, blk_grown' h4 hg (fun r e => (hrow r e).2), h5⟩, blk_grown' h6 hg (fun r e => (hrow r e).2), blk_grown' h7 hg (fun r e => (hrow r e).2), below_grown' h8' hg (fun r e => Nat.le_trans hB (hrow r e).1) h8'.size⟩
theorem runS_ad (l : List UInt8) : ∀ (ts : List Nat) {s s' : RdS} {bl bl' : List BlkM}, runS l ts s bl = ((s', bl'), 0) → s'.ad = s.ad
  | [], s, s', bl, bl', h => by
    simp only [runS, Prod.mk.injEq, and_true] at h
    obtain ⟨rfl, rfl⟩ := h
    rfl
  | t :: ts, s, s', bl, bl', h => by
    rw [runS_cons] at h
    split at h
    · rename_i he
      rw [(Prod.mk.inj h).2] at he
      cases he
    · have h1 := runS_ad l ts h
      have h2 : (ahdS s t).ad = s.ad := by unfold ahdS; split <;> rfl
      have h3 : (stpS l (ahdS s t) t).1.1.ad = (ahdS s t).ad := by
        unfold stpS
        split
        · rfl
        · split <;> rfl
        · split <;> rfl
        · split <;> rfl
        · rfl
        · rfl
      rw [h1, h3, h2]
theorem mg_cons {w W : World} {h : Nat} {m : MacM} {v : Value} {R : List RowF} (hc : Cons w [(h, 29, MgC m v)] R W) (hh : w.heap.size ≤ h) (hR : ∀ r ∈ R, r.e ≠ 29) (a : MacM) (u : Value) :
    Cons w [(h, 29, MgC a u)] R (((((((W.setCell ⟨h, 0, none⟩ (.int .i64 a.ad)).setCell ⟨h, 1, none⟩ (.int .i64 a.kd)).setCell ⟨h, 2, none⟩ (.int .i64 a.qu)).setCell ⟨h, 3, none⟩ (.int .i64 a.x)).setCell ⟨h, 4, none⟩ (.int .i64 a.y)).setCell ⟨h, 5, none⟩ (.int .i64 a.pa)).setCell ⟨h, 6, none⟩ u) := by
  have one : ∀ {W : World} {cs : Array Value} (i : Nat) (u : Value), Cons w [(h, 29, cs)] R W → Cons w [(h, 29, cs.setIfInBounds i u)] R (W.setCell ⟨h, i, none⟩ u) := fun {W cs} i u hc => by
    have h2 := cons_store hc hh i u (h, 29, cs) (by simp) rfl hR
    simpa [setL] using h2
  have h1 := one 6 u (one 5 (.int .i64 a.pa) (one 4 (.int .i64 a.y) (one 3 (.int .i64 a.x) (one 2 (.int .i64 a.qu) (one 1 (.int .i64 a.kd) (one 0 (.int .i64 a.ad) hc))))))
  unfold MgC at h1 ⊢
  simp only [List.setIfInBounds_toArray, List.set_cons_zero, List.set_cons_succ] at h1
  exact h1
def mgR (b : Nat) (v : Value) (xs : List BkE) : List RowF := ⟨b, 81, 2, v, xs.length, rowC bkC xs⟩ :: xs.map fun p => ⟨b, 109, 2, .slice p.2.1 p.1.l.length p.2.2, p.1.l.length, rowC pairC p.1.l⟩
theorem mgR_e {b : Nat} {v : Value} {xs : List BkE} : ∀ r ∈ mgR b v xs, r.e ≠ 29 := by
  intro r hr
  unfold mgR at hr
  rcases List.mem_cons.1 hr with rfl | hr
  · simp
  · obtain ⟨p, _, rfl⟩ := List.mem_map.1 hr
    simp
theorem mg_post {w W : World} {h : Nat} {m : MacM} {v : Value} {xs : List BkE} {n e : Int} (hc : Cons w [(h, 29, MgC m v)] (mgR w.heap.size v xs) W) (hm : m.bl = xs.map (·.1)) : MGPost w (m, n, e) (.returned (.tuple #[.agg (MgC m v), .int .i64 n, .int .i64 e])) W :=
  ⟨hc.1, v, xs, rfl, hm, hc.2.2.head, fun p hp => hc.2.2.tail ⟨w.heap.size, 109, 2, .slice p.2.1 p.1.l.length p.2.2, p.1.l.length, rowC pairC p.1.l⟩ (List.mem_map.2 ⟨p, hp, rfl⟩)⟩
theorem mg_rows {w0 W : World} {g : Nat} {A : Option Addr} {n c : Nat} {s : RdS} {xs : List BkE} {L : List CellF} (h : RdW w0 g A n c s xs W) (hc : CellsAt L W) : Cons w0 L (mgR w0.heap.size s.v xs) W := by
  refine ⟨h.below, hc, RowsAt.cons h.row (fun r hr => ?_)⟩
  obtain ⟨p, hp, rfl⟩ := List.mem_map.1 hr
  exact h.bl p hp
theorem mg_D {W : World} {h D : Nat} {m : MacM} {v : Value} {x : Option (List Deferred)} (hb : Blk W h 29 (MgC m v)) (hK : W.heap[D]? = some (.deferred x)) : D ≠ h := by
  rintro rfl
  have h1 : W.heap[D]? = some (.cells (MgC m v) 29 (0, 0)) := hb
  rw [hK] at h1
  cases h1
theorem mg_keepD {W : World} {h D : Nat} (hne : D ≠ h) (u0 u1 u2 u3 u4 u5 u6 : Value) : (((((((W.setCell ⟨h, 0, none⟩ u0).setCell ⟨h, 1, none⟩ u1).setCell ⟨h, 2, none⟩ u2).setCell ⟨h, 3, none⟩ u3).setCell ⟨h, 4, none⟩ u4).setCell ⟨h, 5, none⟩ u5).setCell ⟨h, 6, none⟩ u6).heap[D]? = W.heap[D]? := by
  rw [Below.heap_setCell _ _ _ D hne, Below.heap_setCell _ _ _ D hne, Below.heap_setCell _ _ _ D hne, Below.heap_setCell _ _ _ D hne, Below.heap_setCell _ _ _ D hne, Below.heap_setCell _ _ _ D hne, Below.heap_setCell _ _ _ D hne]
/-- the last world, the deferred record struck. -/
theorem mg_last {w W : World} {h D : Nat} {m : MacM} {v : Value} {R : List RowF} (hc : Cons w [(h, 29, MgC m v)] R W) (hh : w.heap.size ≤ h) (hR : ∀ r ∈ R, r.e ≠ 29) (hK : W.heap[D]? = some (.deferred (some []))) (hD : w.heap.size ≤ D) (a : MacM) (u : Value) :
    (((((((W.setCell ⟨h, 0, none⟩ (.int .i64 a.ad)).setCell ⟨h, 1, none⟩ (.int .i64 a.kd)).setCell ⟨h, 2, none⟩ (.int .i64 a.qu)).setCell ⟨h, 3, none⟩ (.int .i64 a.x)).setCell ⟨h, 4, none⟩ (.int .i64 a.y)).setCell ⟨h, 5, none⟩ (.int .i64 a.pa)).setCell ⟨h, 6, none⟩ u).drew.heap[D]? = some (.deferred (some [])) ∧
    Cons w [(h, 29, MgC a u)] R ((((((((W.setCell ⟨h, 0, none⟩ (.int .i64 a.ad)).setCell ⟨h, 1, none⟩ (.int .i64 a.kd)).setCell ⟨h, 2, none⟩ (.int .i64 a.qu)).setCell ⟨h, 3, none⟩ (.int .i64 a.x)).setCell ⟨h, 4, none⟩ (.int .i64 a.y)).setCell ⟨h, 5, none⟩ (.int .i64 a.pa)).setCell ⟨h, 6, none⟩ u).drew.putObj D (.deferred none)) := by
  have hd : ∀ X : World, X.heap[D]? = some (.deferred (some [])) → X.drew.heap[D]? = some (.deferred (some [])) := fun X h => h
  have h0 := (mg_keepD (mg_D hc.2.1.head hK) (.int .i64 a.ad) (.int .i64 a.kd) (.int .i64 a.qu) (.int .i64 a.x) (.int .i64 a.y) (.int .i64 a.pa) u).trans hK
  have hm := mg_cons hc hh hR a u
  generalize ((((((W.setCell ⟨h, 0, none⟩ (.int .i64 a.ad)).setCell ⟨h, 1, none⟩ (.int .i64 a.kd)).setCell ⟨h, 2, none⟩ (.int .i64 a.qu)).setCell ⟨h, 3, none⟩ (.int .i64 a.x)).setCell ⟨h, 4, none⟩ (.int .i64 a.y)).setCell ⟨h, 5, none⟩ (.int .i64 a.pa)).setCell ⟨h, 6, none⟩ u = X at h0 hm ⊢
  exact ⟨hd X h0, cons_put (cons_drew hm) (hd X h0) rfl hD⟩
def MgL (g bc h8 ge : Nat) : List CellF := (bc, 57, #[.pointer (some ⟨g, 0, none⟩)]) :: [(h8, 29, MgC m0 (.slice none 0 0)), (ge, 30, #[.int .i64 0])]
theorem mgl_set {W : World} {g bc h8 ge : Nat} (h : CellsAt (MgL g bc h8 ge) W) : CellsAt (MgL g bc h8 ge) (W.setCell ⟨ge, 0, none⟩ (.int .i64 0)) := by
  unfold MgL at *
  have h1 := h.head; have h2 := h.tail.head; have h3 := h.tail.tail.head
  refine CellsAt.cons (h1.far (p := ⟨ge, 0, none⟩) (blk_ne h1 h3 (by simp)) _) (CellsAt.cons (h2.far (p := ⟨ge, 0, none⟩) (blk_ne h2 h3 (by simp)) _) (CellsAt.cons ?_ (cellsAt_nil _)))
  exact h3.set_ 0 (.int .i64 0)
/-- behind a step that failed. -/
theorem mgx_of {w W : World} {g bc h8 ge : Nat} {A : Option Addr} {n c : Nat} {l : List UInt8} {s0 : RdS} {ts : List Nat} {t : Nat} {er E : Int} (hge : w.heap.size ≤ ge) (hE : (rdAll l s0).2 = E) (h : RdE w g A n c l s0 (MgL g bc h8 ge) ts t er W) (hne : er ≠ 0) : MgX w g A n c (stpS l s0 0).1.1.pt s0.x s0.y bc h8 ge E (.exit 1) (W.setCell ⟨ge, 0, none⟩ (.int .i64 er)) := by
  obtain ⟨hb, hc, ⟨s, hs, h1⟩, _, hno⟩ := h
  have he : E = er := hE.symm.trans (hno hne)
  unfold MgL at hc
  have k1 := hc.head; have k2 := hc.tail.head; have k3 := hc.tail.tail.head
  refine ⟨rfl, by rw [he]; exact hne, ⟨CellsAt.cons (k1.far (p := ⟨ge, 0, none⟩) (blk_ne k1 k3 (by simp)) _) (cellsAt_nil _), s, hs.far (p := ⟨ge, 0, none⟩) (blk_ne hs k3 (by simp)) _, h1⟩, k2.far (p := ⟨ge, 0, none⟩) (blk_ne k2 k3 (by simp)) _, ?_, hb.setCell (p := ⟨ge, 0, none⟩) hge _⟩
  rw [he]
  exact k3.set_ 0 (.int .i64 er)
set_option maxRecDepth 100000 in
set_option maxHeartbeats 40000000 in
theorem macro_Get (A : Option Addr) (n c : Nat) (l : List UInt8) (i ad : Int) (x : LastM) (w : World) (hA : Sl w A (l.map byteV)) (hn : l.length = n) (hsz : n ≤ 2 ^ 47) (hT : Ts w) (hi : -9223372036854775808 ≤ i ∧ i ≤ 9223372036854775807) :
    Calls Tryz.prog 11 #[.slice A n c, .int .i64 i, .int .i64 ad, lastV x] w (MGPost w (mgetP l i ad x)) := by
  obtain ⟨r, hr⟩ : ∃ r, mgetP l i ad x = r := ⟨_, rfl⟩
  have hAH := Lib.hid (fun W => macro_ahead x ad W)
  have hPR := Lib.hid (fun W h1 h2 h3 => macro_predictor x ad W h1 h2 h3)
  have hall := Lib.hid (fun v h1 h2 => mget_all l i ad x v h1 h2)
  rw [hr] at hall ⊢
  have HA := Lib.hid hA; have HN := Lib.hid hn; have HT := Lib.hid hT
  clear hA hn hT
  have hB1 : Below w.heap.size w (w.alloc (.cells #[.int .i64 x.ad, .bool x.had, .int .i64 x.x, .int .i64 x.y] 24)) := (Below.refl _ _).alloc (Nat.le_refl _) _
  have hB0 := hB1.alloc hB1.size (.cells #[.int .i64 0, .int .i64 0, .int .i64 0, .int .i64 0, .int .i64 0, .int .i64 0, .slice none 0 0] 29)
  have hM0 : Blk ((w.alloc (.cells #[.int .i64 x.ad, .bool x.had, .int .i64 x.x, .int .i64 x.y] 24)).alloc (.cells #[.int .i64 0, .int .i64 0, .int .i64 0, .int .i64 0, .int .i64 0, .int .i64 0, .slice none 0 0] 29)) (w.heap.size + 1) 29 (MgC m0 (.slice none 0 0)) := blkAt (Blk.new _ _ _) (by simp)
  have HB0 := Lib.hid hB0; have HM0 := Lib.hid hM0
  clear hB1 hB0 hM0
  by_cases h1 : i < 0 ∨ ad < 1 ∨ 33 < ad
  · have hr1 : r = (m0, 0, 3) := by rw [← hr]; unfold mgetP; rw [if_pos h1]
    subst hr1
    unfold lastV
    clear hr hall hAH hPR
    rcases Decidable.em (i < 0) with h2 | h2
    · skip
      refine (callsIn_wide (n := 5)).1 ?_
      refine callsIn_of_wp_marks Tryz.func11 rfl trivial ?_ rfl
      simp only [Tryz.ntmps11, List.size_toArray, List.length_cons, List.length_nil, Nat.reduceAdd, Nat.reduceSub, Array.replicate_succ, Array.replicate_zero, List.push_toArray, List.append_toArray, List.nil_append, List.cons_append]
      refine wpIn_wide.2 ?_
      go_wp2_with fail
      go_step3
      go_wp2_with fail
      rw [Exit.noGoto_ret]
      exact retN (mget_res (w.heap.size + 1) m0 (.slice none 0 0) 0 3 _ _ HM0.out rfl rfl rfl) (mg_fail 3 HB0.out)
    · rcases Decidable.em (ad < 1) with h3 | h3
      · skip
        refine (callsIn_wide (n := 5)).1 ?_
        refine callsIn_of_wp_marks Tryz.func11 rfl trivial ?_ rfl
        simp only [Tryz.ntmps11, List.size_toArray, List.length_cons, List.length_nil, Nat.reduceAdd, Nat.reduceSub, Array.replicate_succ, Array.replicate_zero, List.push_toArray, List.append_toArray, List.nil_append, List.cons_append]
        refine wpIn_wide.2 ?_
        go_wp2_with fail
        go_step3
        go_wp2_with fail
        rw [Exit.noGoto_ret]
        exact retN (mget_res (w.heap.size + 1) m0 (.slice none 0 0) 0 3 _ _ HM0.out rfl rfl rfl) (mg_fail 3 HB0.out)
      · have h4 : 33 < ad := by omega
        refine (callsIn_wide (n := 5)).1 ?_
        refine callsIn_of_wp_marks Tryz.func11 rfl trivial ?_ rfl
        simp only [Tryz.ntmps11, List.size_toArray, List.length_cons, List.length_nil, Nat.reduceAdd, Nat.reduceSub, Array.replicate_succ, Array.replicate_zero, List.push_toArray, List.append_toArray, List.nil_append, List.cons_append]
        refine wpIn_wide.2 ?_
        go_wp2_with fail
        go_step3
        go_wp2_with fail
        rw [Exit.noGoto_ret]
        exact retN (mget_res (w.heap.size + 1) m0 (.slice none 0 0) 0 3 _ _ HM0.out rfl rfl rfl) (mg_fail 3 HB0.out)
  have hnot := Lib.hid h1
  have k1 : ¬ i < 0 := by omega
  have k2 : ¬ ad < 1 := by omega
  have k3 : ¬ 33 < ad := by omega
  clear h1
  cases hx : aheadB x ad with
  | false =>
    have hr1 : r = (m0, 0, 2) := by rw [← hr]; unfold mgetP; rw [if_neg hnot.out, hx]; rfl
    subst hr1
    rw [hx] at hAH
    have HAH := hAH
    unfold lastV at HAH ⊢
    clear hr hall hAH hPR
    refine (callsIn_wide (n := 5)).1 ?_
    refine callsIn_of_wp_marks Tryz.func11 rfl trivial ?_ rfl
    simp only [Tryz.ntmps11, List.size_toArray, List.length_cons, List.length_nil, Nat.reduceAdd, Nat.reduceSub, Array.replicate_succ, Array.replicate_zero, List.push_toArray, List.append_toArray, List.nil_append, List.cons_append]
    refine wpIn_wide.2 ?_
    go_wp2_with fail
    go_step3
    go_wp2_with (go_at_call 32; refine (HAH.out _).mono ?_; rintro e w2 ⟨rfl, hb2⟩; have HB2 := Lib.hid hb2; have HM2 := Lib.hid (HM0.out.below hb2 HM0.out.lt); clear hb2; have HM3 := HM2.out; unfold MgC m0 at HM3; have z0 := HM3.frozen 0; have z1 := HM3.frozen 1; have z2 := HM3.frozen 2; have z3 := HM3.frozen 3; have z4 := HM3.frozen 4; have z5 := HM3.frozen 5; have z6 := HM3.frozen 6; have y0 := HM3.cell 0; have y1 := HM3.cell 1; have y2 := HM3.cell 2; have y3 := HM3.cell 3; have y4 := HM3.cell 4; have y5 := HM3.cell 5; have y6 := HM3.cell 6; clear HM3; simp at y0 y1 y2 y3 y4 y5 y6)
    rw [Exit.noGoto_ret]
    exact retN (mget_res (w.heap.size + 1) m0 (.slice none 0 0) 0 2 _ _ (mg_zero HM2.out m0 (.slice none 0 0)) rfl rfl rfl) (mg_fail 2 (mg_below (HB0.out.trans (HB2.out.mono HB0.out.size)) (by omega) m0 (.slice none 0 0)))
  | true =>
    rw [hx] at hAH
    have hax := hx
    unfold aheadB at hax
    simp only [Bool.and_eq_true, decide_eq_true_eq] at hax
    have HPR := Lib.hid (fun W => hPR.out W hax.1.1.1.1 hax.1.1.1.2 (by omega))
    have HPP := Lib.hid (pred_part hx)
    have HALL := Lib.hid (fun v => hall.out v hnot.out hx)
    have HAH := hAH
    obtain ⟨⟨px, py⟩, hpr⟩ : ∃ pr, predP ad (ad - x.ad) x.had x.x x.y = pr := ⟨_, rfl⟩
    rw [hpr] at HPR HPP
    have HRD : Hid (∀ v, rd0 i ad x v = ⟨i, (false, false, false, false, false), ad, 0, 0, 0, 0, 0, v, px, py⟩) := Lib.hid (fun v => by unfold rd0; rw [hpr])
    unfold lastV at HAH HPR ⊢
    dsimp only at HPR
    clear hr hall hAH hPR hax hpr hx
    refine (callsIn_wide (n := 5)).1 ?_
    refine callsIn_of_wp_marks Tryz.func11 rfl trivial ?_ rfl
    simp only [Tryz.ntmps11, List.size_toArray, List.length_cons, List.length_nil, Nat.reduceAdd, Nat.reduceSub, Array.replicate_succ, Array.replicate_zero, List.push_toArray, List.append_toArray, List.nil_append, List.cons_append]
    refine wpIn_wide.2 ?_
    go_wp2_with fail
    go_step3
    go_wp2_with (first | (go_at_call 32; refine (HAH.out _).mono ?_; rintro e w2 ⟨rfl, hb2⟩; have HB2 := Lib.hid (HB0.out.trans (hb2.mono HB0.out.size)); have HM2 := Lib.hid (HM0.out.below hb2 HM0.out.lt); have hbl := ((Blk.new w 24 #[.int .i64 x.ad, .bool x.had, .int .i64 x.x, .int .i64 x.y]).alloc (.cells #[.int .i64 0, .int .i64 0, .int .i64 0, .int .i64 0, .int .i64 0, .int .i64 0, .slice none 0 0] 29)).below hb2 (by simp; omega); clear hb2; have HBL := Lib.hid hbl; have x0 := hbl.cell 0; have x1 := hbl.cell 1; have x2 := hbl.cell 2; have x3 := hbl.cell 3; clear hbl; (try dsimp only at x0 x1 x2 x3); obtain ⟨g, hg⟩ : ∃ g, w2.heap.size = g := ⟨_, rfl⟩; have hba := HBL.out.alloc (.cells #[.slice A n c, .int .i64 i, .bool false, .bool false, .bool false, .bool false, .bool false, .int .i64 ad, .int .i64 0, .int .i64 0, .int .i64 0, .int .i64 0, .int .i64 0, .slice none 0 0, .int .i64 0, .int .i64 0] 61); have u0 := hba.cell 0; have u1 := hba.cell 1; have u2 := hba.cell 2; have u3 := hba.cell 3; clear hba; (try dsimp only at u0 u1 u2 u3); have HRB := Lib.hid (blkAt (Blk.new w2 61 #[.slice A n c, .int .i64 i, .bool false, .bool false, .bool false, .bool false, .bool false, .int .i64 ad, .int .i64 0, .int .i64 0, .int .i64 0, .int .i64 0, .int .i64 0, .slice none 0 0, .int .i64 0, .int .i64 0]) hg); have HMa := Lib.hid (HM2.out.alloc (.cells #[.slice A n c, .int .i64 i, .bool false, .bool false, .bool false, .bool false, .bool false, .int .i64 ad, .int .i64 0, .int .i64 0, .int .i64 0, .int .i64 0, .int .i64 0, .slice none 0 0, .int .i64 0, .int .i64 0] 61)); have HBa := Lib.hid (HB2.out.alloc HB2.out.size (.cells #[.slice A n c, .int .i64 i, .bool false, .bool false, .bool false, .bool false, .bool false, .int .i64 ad, .int .i64 0, .int .i64 0, .int .i64 0, .int .i64 0, .int .i64 0, .slice none 0 0, .int .i64 0, .int .i64 0] 61)); have HG := Lib.hid (show w.heap.size + 2 ≤ g by have h := HB2.out.size; have h2 := HM2.out.lt; rw [hg] at h2; omega)) | (go_at_call 33; refine (HPR.out _).mono ?_; rintro e w3 ⟨rfl, hb3⟩; clear u0 u1 u2 u3 x0 x1 x2 x3; have hrb := HRB.out.below hb3 HRB.out.lt; have HM4 := Lib.hid (HMa.out.below hb3 HMa.out.lt); have HB4 := Lib.hid (HBa.out.trans (hb3.mono HBa.out.size)); clear hb3; have u14 := hrb.cell 14; have u15 := hrb.cell 15; have v14 := hrb.frozen 14; have v15 := hrb.frozen 15; have HRB4 := Lib.hid hrb; clear hrb; (try dsimp only at u14 u15 v14 v15)))
    have hgw : w.heap.size ≤ g := by have := HG.out; omega
    have hRW : RdW w g A n c ⟨i, (false, false, false, false, false), ad, 0, 0, 0, 0, 0, .slice none 0 0, px, py⟩ [] (((w3.setCell ⟨g, 14, none⟩ (.int .i64 px)).setCell ⟨g, 15, none⟩ (.int .i64 py)).alloc (.cells #[.int .i64 0] 30)) := by
      refine ⟨(((HB4.out.setCell (p := ⟨g, 14, none⟩) hgw _).setCell (p := ⟨g, 15, none⟩) hgw _).alloc (by have h := HB4.out.size; simpa using h) _), ?_, World.ownsRow_nil _ _ _ _, fun p hp => by cases hp⟩
      have h1 := ((HRB4.out.set_ 14 (.int .i64 px)).set_ 15 (.int .i64 py)).alloc (.cells #[.int .i64 0] 30)
      simp only [List.setIfInBounds_toArray, List.set_cons_zero, List.set_cons_succ] at h1
      exact h1
    have hMM : Blk (((w3.setCell ⟨g, 14, none⟩ (.int .i64 px)).setCell ⟨g, 15, none⟩ (.int .i64 py)).alloc (.cells #[.int .i64 0] 30)) (w.heap.size + 1) 29 (MgC m0 (.slice none 0 0)) := ((HM4.out.far (p := ⟨g, 14, none⟩) (by have := HG.out; show w.heap.size + 1 ≠ g; omega) _).far (p := ⟨g, 15, none⟩) (by have := HG.out; show w.heap.size + 1 ≠ g; omega) _).alloc _
    have hEE : Blk (((w3.setCell ⟨g, 14, none⟩ (.int .i64 px)).setCell ⟨g, 15, none⟩ (.int .i64 py)).alloc (.cells #[.int .i64 0] 30)) w3.heap.size 30 #[.int .i64 0] := blkAt (Blk.new _ _ _) (by simp)
    generalize ((w3.setCell ⟨g, 14, none⟩ (.int .i64 px)).setCell ⟨g, 15, none⟩ (.int .i64 py)).alloc (.cells #[.int .i64 0] 30) = W5 at hRW hMM hEE ⊢
    obtain ⟨ge, hge⟩ : ∃ ge, w3.heap.size = ge := ⟨_, rfl⟩
    rw [hge] at hEE ⊢
    obtain ⟨h8, hh8⟩ : ∃ h8, w.heap.size + 1 = h8 := ⟨_, rfl⟩
    rw [hh8] at hMM ⊢
    have HH8 := Lib.hid (show w.heap.size ≤ h8 by omega)
    have HGE := Lib.hid (show w.heap.size ≤ ge by rw [← hge]; exact HB4.out.size)
    have HRW := Lib.hid hRW; have HMM := Lib.hid hMM; have HEE := Lib.hid hEE
    clear hRW hMM hEE hge hh8 HB4 HRB4 HM4 HBa HMa HRB HBL HM2 HB2 HB0 HM0 HG u14 u15 v14 v15 hg
    obtain ⟨bc, hbc⟩ : ∃ bc, W5.heap.size = bc := ⟨_, rfl⟩
    go_step3
    go_wp2_with (go_at_call 34; refine (rd_steps _ _).mono ?_; rintro e w' ⟨rfl, rfl⟩)
    have hLB : ∀ q ∈ MgL g bc h8 ge, q.2.1 ≠ 81 ∧ q.1 ≠ g := by
      have e1 : h8 ≠ g := blk_ne HMM.out HRW.out.cell (by simp)
      have e2 : ge ≠ g := blk_ne HEE.out HRW.out.cell (by simp)
      have e3 : bc ≠ g := by have := HRW.out.cell.lt; omega
      intro q hq
      simp only [MgL, List.mem_cons, List.mem_nil_iff, or_false] at hq
      rcases hq with rfl | rfl | rfl
      · exact ⟨by simp, e3⟩
      · exact ⟨by simp, e1⟩
      · exact ⟨by simp, e2⟩
    have HLB := Lib.hid hLB
    obtain ⟨s0, hs0⟩ : ∃ s0 : RdS, (⟨i, (false, false, false, false, false), ad, 0, 0, 0, 0, 0, .slice none 0 0, px, py⟩ : RdS) = s0 := ⟨_, rfl⟩
    have HS0 := Lib.hid hs0
    have HSA : Hid (s0.a = i ∧ s0.x = px ∧ s0.y = py) := Lib.hid (by rw [← hs0]; exact ⟨rfl, rfl, rfl⟩)
    have hR0 : RdW w g A n c s0 [] (W5.alloc (.cells #[.pointer (some ⟨g, 0, none⟩)] 57)) := by rw [← hs0]; exact HRW.out.mono ((Below.refl _ _).alloc (Nat.le_refl _) _)
    have hI0 : RdI w g A n c l s0 (MgL g bc h8 ge) [] 0 (W5.alloc (.cells #[.pointer (some ⟨g, 0, none⟩)] 57)) :=
      ⟨⟨s0, [], s0.v, [], rfl, hR0, rfl⟩, CellsAt.cons (blkAt (Blk.new _ _ _) hbc) (CellsAt.cons (HMM.out.alloc _) (CellsAt.cons (HEE.out.alloc _) (cellsAt_nil _)))⟩
    have HPP := Lib.hid (show partB s0.x = true ∧ partB s0.y = true by rw [HSA.out.2.1, HSA.out.2.2]; exact HPP.out)
    have HBN : Hid (∀ (ts : List Nat) (s : RdS) (v : Value) (bl : List BlkM) (xs : List BkE), (∃ us, ts = 0 :: us) → runS l ts s0 [] = ((s, bl), 0) → xs.map (·.1) = bl → (∃ u, ts ++ [u] <+: tagsS l s0) → 0 ≤ s.a ∧ s.a ≤ 8 * (l.length : Int) ∧ xs.length ≤ 100 ∧ s.x = s0.x ∧ s.y = s0.y) := Lib.hid (by
      rintro ts s v bl xs ⟨us, rfl⟩ hrun hm ⟨u, hu⟩
      have hk := (runS_first l hrun).1
      have h8 : s0.a ≤ 8 * (l.length : Int) := by
        by_cases h : s0.a ≤ 8 * (l.length : Int)
        · exact h
        · exact absurd hk (treeR_over (ns := kindN) kindC_ne (by omega)).2
      have b := runS_bnd l _ hrun (by rw [HSA.out.1]; omega) h8
      have hln := hu.length_le
      have h11 := tags_len l s0
      rw [List.length_append] at hln
      have e : xs.length = bl.length := by rw [← hm, List.length_map]
      have b3 := b.2.2.1
      rw [List.length_nil] at b3
      exact ⟨b.1, b.2.1, by omega, b.2.2.2.1, b.2.2.2.2⟩)
    have HRDS := Lib.hid (HALL.out (.slice none 0 0))
    rw [HRD.out] at HRDS
    rw [hs0] at HRDS
    obtain ⟨E, hE⟩ : ∃ E, (rdAll l s0).2 = E := ⟨_, rfl⟩
    have HEQ := Lib.hid hE
    clear hs0 hLB hR0 hE
    have HI0 := Lib.hid hI0
    clear hI0
    have HB6 : Hid (w.heap.size ≤ (W5.alloc (.cells #[.pointer (some ⟨g, 0, none⟩)] 57)).heap.size) := Lib.hid (by obtain ⟨⟨s, bl, v, xs, _, hr, _⟩, _⟩ := HI0.out; exact hr.below.size)
    generalize W5.alloc (.cells #[.pointer (some ⟨g, 0, none⟩)] 57) = W6 at HI0 HB6 ⊢
    clear HRW HMM HEE HRD HALL HPR HAH hbc
    refine (wpIn_wide (n := 5)).1 ?_
    refine wp_xF (α := SEl) (enc := fun x => #[stV g x]) (IS := SgIS w g A n c l s0 (MgL g bc h8 ge)) (I := SgI w g A n c l s0 (MgL g bc h8 ge)) (I2 := SgI2 w g A n c l s0 (MgL g bc h8 ge)) (IE := SgIE w g A n c l s0 (MgL g bc h8 ge)) (S := fun xs => tgs xs = tagsS l s0) (Sp := fun pre => tgs pre <+: tagsS l s0)
      (St := StS g A n c (stpS l s0 0).1.1.pt s0.x s0.y [(bc, 57, #[.pointer (some ⟨g, 0, none⟩)])])
      rfl (by decide) (gf := 71) (lb := #[.pointer (some ⟨bc, 0, none⟩)]) rfl trivial (enters_of Tryz.func71 (by kernel_rfl) rfl)
      (steps_seq 4 (by decide) w g bc A n c l s0 [(h8, 29, MgC m0 (.slice none 0 0)), (ge, 30, #[.int .i64 0])] hgw (fun q hq => (HLB.out q hq).2)) (fun _ => rfl)
      (fun cd _ W => MgX w g A n c (stpS l s0 0).1.1.pt s0.x s0.y bc h8 ge E cd W) (fun cd pre W h => h.st)
      (fun pre x _ W => SgI w g A n c l s0 (MgL g bc h8 ge) pre x W)
      (rdi_own HB6.out (fun _ : List SEl => []) 0) (rdi_own HB6.out tgs 5) (rdi_own HB6.out tgs 0) (fun cd => mgx_own HB6.out) (fun x k => OwnFrom.and (rdi_own HB6.out tgs x.1) (ptb_own x)) HI0.out ?round ?done ?stop
    case round =>
      apply Exists.intro
      refine And.intro ?_ ?_
      · rintro lp pre x W' hI hsp
        have HI := Lib.hid hI
        clear hI hsp
        dsimp only
        gi_wp2
        obtain ⟨g0, hg0⟩ : ∃ g0, W'.heap.size = g0 := ⟨_, rfl⟩
        exact ⟨⟨g0, rfl, HI.out⟩, KeepsFrom.refl _ _⟩
      · rintro lp pre ⟨t, b0, b1, b2⟩ k W' ⟨hI, hP⟩ hsp
        have hI : RdI w g A n c l s0 (MgL g bc h8 ge) (tgs pre) t W' := hI
        have hsp' : tgs pre ++ [t] <+: tagsS l s0 := by rw [← tgs_snoc pre (t, b0, b1, b2)]; exact hsp
        rcases tags_pre l s0 hsp' with ⟨hpre, rfl⟩ | ⟨us, hpre, hus, ht0, ht5⟩
        · skip
          have A0 : ∀ {s : RdS} {bl : List BlkM}, runS l (tgs pre) s0 [] = ((s, bl), 0) → s.a = i := fun hrun => by
            rw [hpre] at hrun
            simp only [runS, Prod.mk.injEq, and_true] at hrun
            rw [← hrun.1]
            exact HSA.out.1
          have hC : Calls Tryz.prog 72 #[.pointer (some ⟨g, 0, none⟩)] W' fun e W2 => ∃ er, e = .returned (.int .i64 er) ∧ (∀ B, KeepsFrom B W' W2) ∧ RdE w g A n c l s0 (MgL g bc h8 ge) (tgs pre) 0 er W2 := by
            refine rdi_call hI hsp' HLB.out (fun s v bl xs hrun hr hm => ?_)
            exact stp_kind2 hr hgw HA.out HN.out hsz (by rw [(ahd_keep s 0).1, A0 hrun]; omega) (by rw [(ahd_keep s 0).1, A0 hrun]; omega)
          have HC := Lib.hid hC
          have HS := Lib.hid hsp
          clear hC hI hP hsp hsp' hpre
          dsimp only [stV]
          gi_wp2_with (refine ⟨trivial, ?_⟩; gi_at_call 72; refine (callsIn_wide.2 HC.out).mono ?_; rintro e w2 ⟨er, rfl, hkf, hE⟩; have HKF := Lib.hid hkf; have HE := Lib.hid hE; have hcc := hE.cl.tail.tail.head; clear hkf hE HC; have y0 := hcc.cell 0; have y1 := hcc.frozen 0; have HEc := Lib.hid hcc; clear hcc; (try dsimp only at y0 y1); have y2 := (HEc.out.set_ 0 (.int .i64 er)).cell 0; (try dsimp only at y2))
          · exact ⟨kf_set (HKF.out _) _ _, mgx_of HGE.out HEQ.out HE.out (by rename_i h; simpa using h)⟩
          · have he : er = 0 := by rename_i h; simpa using h
            subst he
            refine ⟨kf_set (HKF.out _) _ _, trivial, ?_⟩
            show RdI w g A n c l s0 (MgL g bc h8 ge) (tgs (pre ++ [_])) 0 _
            rw [tgs_snoc]
            exact (HE.out.ok rfl).setE HGE.out HEc.out (.int .i64 0) (mgl_set HE.out.cl)
        · have hpre : ∃ us, tgs pre = 0 :: us := ⟨us, hpre⟩
          have ht : t = 1 ∨ t = 2 ∨ t = 3 ∨ t = 4 ∨ t = 5 := by omega
          clear hus ht0 ht5
          rcases ht with rfl | rfl | rfl | rfl | rfl
          · skip
            have hC : Calls Tryz.prog 73 #[.pointer (some ⟨g, 0, none⟩)] W' fun e W2 => ∃ er, e = .returned (.int .i64 er) ∧ (∀ B, KeepsFrom B W' W2) ∧ RdE w g A n c l s0 (MgL g bc h8 ge) (tgs pre) 1 er W2 := by
              refine rdi_call hI hsp' HLB.out (fun s v bl xs hrun hr hm => ?_)
              obtain ⟨B0, B1, BL, BX, BY⟩ := HBN.out (tgs pre) s v bl xs hpre hrun hm ⟨_, hsp'⟩
              have B0 : 0 ≤ ({ ahdS s 1 with v := v } : RdS).a := by show 0 ≤ (ahdS s 1).a; rw [(ahd_keep s 1).1]; exact B0
              have B1 : ({ ahdS s 1 with v := v } : RdS).a ≤ 8 * (l.length : Int) := by show (ahdS s 1).a ≤ _; rw [(ahd_keep s 1).1]; exact B1
              have BX : ({ ahdS s 1 with v := v } : RdS).x = s0.x := by show (ahdS s 1).x = _; rw [(ahd_keep s 1).2.1]; exact BX
              have BY : ({ ahdS s 1 with v := v } : RdS).y = s0.y := by show (ahdS s 1).y = _; rw [(ahd_keep s 1).2.2.1]; exact BY
              exact stp_quant hr hgw HA.out HN.out hsz B0 B1
            have HC := Lib.hid hC
            have HS := Lib.hid hsp
            clear hC hI hP hsp hsp' hpre
            dsimp only [stV]
            gi_wp2_with (refine ⟨trivial, ?_⟩; gi_at_call 73; refine (callsIn_wide.2 HC.out).mono ?_; rintro e w2 ⟨er, rfl, hkf, hE⟩; have HKF := Lib.hid hkf; have HE := Lib.hid hE; have hcc := hE.cl.tail.tail.head; clear hkf hE HC; have y0 := hcc.cell 0; have y1 := hcc.frozen 0; have HEc := Lib.hid hcc; clear hcc; (try dsimp only at y0 y1); have y2 := (HEc.out.set_ 0 (.int .i64 er)).cell 0; (try dsimp only at y2))
            · exact ⟨kf_set (HKF.out _) _ _, mgx_of HGE.out HEQ.out HE.out (by rename_i h; simpa using h)⟩
            · have he : er = 0 := by rename_i h; simpa using h
              subst he
              refine ⟨kf_set (HKF.out _) _ _, trivial, ?_⟩
              show RdI w g A n c l s0 (MgL g bc h8 ge) (tgs (pre ++ [_])) 0 _
              rw [tgs_snoc]
              exact (HE.out.ok rfl).setE HGE.out HEc.out (.int .i64 0) (mgl_set HE.out.cl)
          · skip
            have hC : Calls Tryz.prog 111 #[.pointer (some ⟨b0, 0, none⟩), .pointer (some ⟨b1, 0, none⟩), .pointer (some ⟨b2, 0, none⟩)] W' fun e W2 => ∃ er, e = .returned (.int .i64 er) ∧ (∀ B, KeepsFrom B W' W2) ∧ RdE w g A n c l s0 (MgL g bc h8 ge) (tgs pre) 2 er W2 := by
              refine rdi_call hI hsp' HLB.out (fun s v bl xs hrun hr hm => ?_)
              obtain ⟨B0, B1, BL, BX, BY⟩ := HBN.out (tgs pre) s v bl xs hpre hrun hm ⟨_, hsp'⟩
              have B0 : 0 ≤ ({ ahdS s 2 with v := v } : RdS).a := by show 0 ≤ (ahdS s 2).a; rw [(ahd_keep s 2).1]; exact B0
              have B1 : ({ ahdS s 2 with v := v } : RdS).a ≤ 8 * (l.length : Int) := by show (ahdS s 2).a ≤ _; rw [(ahd_keep s 2).1]; exact B1
              have BX : ({ ahdS s 2 with v := v } : RdS).x = s0.x := by show (ahdS s 2).x = _; rw [(ahd_keep s 2).2.1]; exact BX
              have BY : ({ ahdS s 2 with v := v } : RdS).y = s0.y := by show (ahdS s 2).y = _; rw [(ahd_keep s 2).2.2.1]; exact BY
              exact stp_partX hr hgw HA.out HN.out hsz B0 B1 (by rw [BX]; exact HPP.out.1) hP.1 (by rw [BX]; exact hP.2.1) hP.2.2
            have HC := Lib.hid hC
            have HS := Lib.hid hsp
            clear hC hI hP hsp hsp' hpre
            dsimp only [stV]
            gi_wp2_with (refine ⟨trivial, ?_⟩; gi_at_call 111; refine (callsIn_wide.2 HC.out).mono ?_; rintro e w2 ⟨er, rfl, hkf, hE⟩; have HKF := Lib.hid hkf; have HE := Lib.hid hE; have hcc := hE.cl.tail.tail.head; clear hkf hE HC; have y0 := hcc.cell 0; have y1 := hcc.frozen 0; have HEc := Lib.hid hcc; clear hcc; (try dsimp only at y0 y1); have y2 := (HEc.out.set_ 0 (.int .i64 er)).cell 0; (try dsimp only at y2))
            · exact ⟨kf_set (HKF.out _) _ _, mgx_of HGE.out HEQ.out HE.out (by rename_i h; simpa using h)⟩
            · have he : er = 0 := by rename_i h; simpa using h
              subst he
              refine ⟨kf_set (HKF.out _) _ _, trivial, ?_⟩
              show RdI w g A n c l s0 (MgL g bc h8 ge) (tgs (pre ++ [_])) 0 _
              rw [tgs_snoc]
              exact (HE.out.ok rfl).setE HGE.out HEc.out (.int .i64 0) (mgl_set HE.out.cl)
          · skip
            have hC : Calls Tryz.prog 111 #[.pointer (some ⟨b0, 0, none⟩), .pointer (some ⟨b1, 0, none⟩), .pointer (some ⟨b2, 0, none⟩)] W' fun e W2 => ∃ er, e = .returned (.int .i64 er) ∧ (∀ B, KeepsFrom B W' W2) ∧ RdE w g A n c l s0 (MgL g bc h8 ge) (tgs pre) 3 er W2 := by
              refine rdi_call hI hsp' HLB.out (fun s v bl xs hrun hr hm => ?_)
              obtain ⟨B0, B1, BL, BX, BY⟩ := HBN.out (tgs pre) s v bl xs hpre hrun hm ⟨_, hsp'⟩
              have B0 : 0 ≤ ({ ahdS s 3 with v := v } : RdS).a := by show 0 ≤ (ahdS s 3).a; rw [(ahd_keep s 3).1]; exact B0
              have B1 : ({ ahdS s 3 with v := v } : RdS).a ≤ 8 * (l.length : Int) := by show (ahdS s 3).a ≤ _; rw [(ahd_keep s 3).1]; exact B1
              have BX : ({ ahdS s 3 with v := v } : RdS).x = s0.x := by show (ahdS s 3).x = _; rw [(ahd_keep s 3).2.1]; exact BX
              have BY : ({ ahdS s 3 with v := v } : RdS).y = s0.y := by show (ahdS s 3).y = _; rw [(ahd_keep s 3).2.2.1]; exact BY
              exact stp_partY hr hgw HA.out HN.out hsz B0 B1 (by rw [BY]; exact HPP.out.2) hP.1 (by rw [BY]; exact hP.2.1) hP.2.2
            have HC := Lib.hid hC
            have HS := Lib.hid hsp
            clear hC hI hP hsp hsp' hpre
            dsimp only [stV]
            gi_wp2_with (refine ⟨trivial, ?_⟩; gi_at_call 111; refine (callsIn_wide.2 HC.out).mono ?_; rintro e w2 ⟨er, rfl, hkf, hE⟩; have HKF := Lib.hid hkf; have HE := Lib.hid hE; have hcc := hE.cl.tail.tail.head; clear hkf hE HC; have y0 := hcc.cell 0; have y1 := hcc.frozen 0; have HEc := Lib.hid hcc; clear hcc; (try dsimp only at y0 y1); have y2 := (HEc.out.set_ 0 (.int .i64 er)).cell 0; (try dsimp only at y2))
            · exact ⟨kf_set (HKF.out _) _ _, mgx_of HGE.out HEQ.out HE.out (by rename_i h; simpa using h)⟩
            · have he : er = 0 := by rename_i h; simpa using h
              subst he
              refine ⟨kf_set (HKF.out _) _ _, trivial, ?_⟩
              show RdI w g A n c l s0 (MgL g bc h8 ge) (tgs (pre ++ [_])) 0 _
              rw [tgs_snoc]
              exact (HE.out.ok rfl).setE HGE.out HEc.out (.int .i64 0) (mgl_set HE.out.cl)
          · skip
            have hC : Calls Tryz.prog 75 #[.pointer (some ⟨g, 0, none⟩)] W' fun e W2 => ∃ er, e = .returned (.int .i64 er) ∧ (∀ B, KeepsFrom B W' W2) ∧ RdE w g A n c l s0 (MgL g bc h8 ge) (tgs pre) 4 er W2 := by
              refine rdi_call hI hsp' HLB.out (fun s v bl xs hrun hr hm => ?_)
              obtain ⟨B0, B1, BL, BX, BY⟩ := HBN.out (tgs pre) s v bl xs hpre hrun hm ⟨_, hsp'⟩
              have B0 : 0 ≤ ({ ahdS s 4 with v := v } : RdS).a := by show 0 ≤ (ahdS s 4).a; rw [(ahd_keep s 4).1]; exact B0
              have B1 : ({ ahdS s 4 with v := v } : RdS).a ≤ 8 * (l.length : Int) := by show (ahdS s 4).a ≤ _; rw [(ahd_keep s 4).1]; exact B1
              have BX : ({ ahdS s 4 with v := v } : RdS).x = s0.x := by show (ahdS s 4).x = _; rw [(ahd_keep s 4).2.1]; exact BX
              have BY : ({ ahdS s 4 with v := v } : RdS).y = s0.y := by show (ahdS s 4).y = _; rw [(ahd_keep s 4).2.2.1]; exact BY
              exact stp_pattern hr hgw HA.out (HT.out) HN.out hsz B0 B1
            have HC := Lib.hid hC
            have HS := Lib.hid hsp
            clear hC hI hP hsp hsp' hpre
            dsimp only [stV]
            gi_wp2_with (refine ⟨trivial, ?_⟩; gi_at_call 75; refine (callsIn_wide.2 HC.out).mono ?_; rintro e w2 ⟨er, rfl, hkf, hE⟩; have HKF := Lib.hid hkf; have HE := Lib.hid hE; have hcc := hE.cl.tail.tail.head; clear hkf hE HC; have y0 := hcc.cell 0; have y1 := hcc.frozen 0; have HEc := Lib.hid hcc; clear hcc; (try dsimp only at y0 y1); have y2 := (HEc.out.set_ 0 (.int .i64 er)).cell 0; (try dsimp only at y2))
            · exact ⟨kf_set (HKF.out _) _ _, mgx_of HGE.out HEQ.out HE.out (by rename_i h; simpa using h)⟩
            · have he : er = 0 := by rename_i h; simpa using h
              subst he
              refine ⟨kf_set (HKF.out _) _ _, trivial, ?_⟩
              show RdI w g A n c l s0 (MgL g bc h8 ge) (tgs (pre ++ [_])) 0 _
              rw [tgs_snoc]
              exact (HE.out.ok rfl).setE HGE.out HEc.out (.int .i64 0) (mgl_set HE.out.cl)
          · skip
            have hC : Calls Tryz.prog 76 #[.pointer (some ⟨g, 0, none⟩)] W' fun e W2 => ∃ er, e = .returned (.int .i64 er) ∧ (∀ B, KeepsFrom B W' W2) ∧ RdE w g A n c l s0 (MgL g bc h8 ge) (tgs pre) 5 er W2 := by
              refine rdi_call hI hsp' HLB.out (fun s v bl xs hrun hr hm => ?_)
              obtain ⟨B0, B1, BL, BX, BY⟩ := HBN.out (tgs pre) s v bl xs hpre hrun hm ⟨_, hsp'⟩
              have B0 : 0 ≤ ({ ahdS s 5 with v := v } : RdS).a := by show 0 ≤ (ahdS s 5).a; rw [(ahd_keep s 5).1]; exact B0
              have B1 : ({ ahdS s 5 with v := v } : RdS).a ≤ 8 * (l.length : Int) := by show (ahdS s 5).a ≤ _; rw [(ahd_keep s 5).1]; exact B1
              have BX : ({ ahdS s 5 with v := v } : RdS).x = s0.x := by show (ahdS s 5).x = _; rw [(ahd_keep s 5).2.1]; exact BX
              have BY : ({ ahdS s 5 with v := v } : RdS).y = s0.y := by show (ahdS s 5).y = _; rw [(ahd_keep s 5).2.2.1]; exact BY
              exact stp_block hr hgw HA.out (HT.out) HN.out hsz B0 B1 BL
            have HC := Lib.hid hC
            have HS := Lib.hid hsp
            clear hC hI hP hsp hsp' hpre
            dsimp only [stV]
            gi_wp2_with (refine ⟨trivial, ?_⟩; gi_at_call 76; refine (callsIn_wide.2 HC.out).mono ?_; rintro e w2 ⟨er, rfl, hkf, hE⟩; have HKF := Lib.hid hkf; have HE := Lib.hid hE; have hcc := hE.cl.tail.tail.head; clear hkf hE HC; have y0 := hcc.cell 0; have y1 := hcc.frozen 0; have HEc := Lib.hid hcc; clear hcc; (try dsimp only at y0 y1); have y2 := (HEc.out.set_ 0 (.int .i64 er)).cell 0; (try dsimp only at y2))
            · exact ⟨kf_set (HKF.out _) _ _, mgx_of HGE.out HEQ.out HE.out (by rename_i h; simpa using h)⟩
            · have he : er = 0 := by rename_i h; simpa using h
              subst he
              refine ⟨kf_set (HKF.out _) _ _, trivial, ?_⟩
              show RdI w g A n c l s0 (MgL g bc h8 ge) (tgs (pre ++ [_])) 0 _
              rw [tgs_snoc]
              exact (HE.out.ok rfl).setE HGE.out HEc.out (.int .i64 0) (mgl_set HE.out.cl)
    case done =>
      rintro D xs W2 hD hS hIE hK
      obtain ⟨⟨s, bl, v, xs', hrun, hr, hm⟩, hcl⟩ := hIE
      rw [hS] at hrun
      rw [final5 l hrun] at hr
      obtain ⟨A2, c2, hv⟩ := own_slN hr.row
      dsimp only at hv
      subst hv
      have hral : rdAll l s0 = ((s, bl), 0) := (rdAll_run l s0).trans hrun
      have hrr : r = (⟨ad, s.kd, s.qu, s.mx, s.my, s.pa, bl⟩, s.a - i, 0) := by
        rcases HRDS.out with ⟨_, _, h3⟩ | ⟨_, s', bl', h2, h3⟩
        · rw [hral] at h3; exact absurd rfl h3
        · rw [hral] at h2
          obtain ⟨rfl, rfl⟩ := Prod.mk.inj h2
          exact h3
      have had : s.ad = ad := by rw [runS_ad l _ hrun, ← HS0.out]
      have hk := (runS_first l hrun).1
      have h88 : s0.a ≤ 8 * (l.length : Int) := by
        by_cases h : s0.a ≤ 8 * (l.length : Int)
        · exact h
        · exact absurd hk (treeR_over (ns := kindN) kindC_ne (by omega)).2
      have hb := runS_bnd l _ hrun (by rw [HSA.out.1]; omega) h88
      have hwr : IntKind.i64.wrap (s.a - i) = s.a - i := by have h1 := HSA.out.1; have h2 := HN.out; have h3 := hb.1; have h4 := hb.2.1; rw [IntKind.wrap_i64]; omega
      have HRR := Lib.hid hrr; have HM := Lib.hid hm; have HK := Lib.hid hK; have HD := Lib.hid hD; have HWR := Lib.hid hwr
      clear hrr hm hb hwr hk h88 hS hral hrun hK hD
      have HR2 := Lib.hid hr
      have hMr : Cons w [(h8, 29, MgC m0 (.slice none 0 0))] (mgR w.heap.size (.slice A2 xs'.length c2) xs') W2 := mg_rows hr (CellsAt.cons hcl.tail.head (cellsAt_nil _))
      have HMR := Lib.hid hMr
      have HGC := Lib.hid (show Blk W2.drew g 61 (rdC A n c { s with v := .slice A2 xs'.length c2 }) from hr.cell)
      have hmc := hMr.2.1.head
      have hec := hcl.tail.tail.head
      clear hr hMr hcl
      have y0 := hec.cell 0
      have q0 := hmc.frozen 0; have q1 := hmc.frozen 1; have q2 := hmc.frozen 2; have q3 := hmc.frozen 3; have q4 := hmc.frozen 4; have q5 := hmc.frozen 5; have q6 := hmc.frozen 6
      have r0 := hmc.cell 0; have r1 := hmc.cell 1; have r2 := hmc.cell 2; have r3 := hmc.cell 3; have r4 := hmc.cell 4; have r5 := hmc.cell 5; have r6 := hmc.cell 6
      unfold MgC m0 at r0 r1 r2 r3 r4 r5 r6
      simp at r0 r1 r2 r3 r4 r5 r6
      (try dsimp only at y0 q0 q1 q2 q3 q4 q5 q6)
      clear hec hmc
      obtain ⟨sa, pt, sad, kd, qu, mx, my, pa, sv, sx, sy⟩ := s
      dsimp only at had
      subst had
      unfold rdC at HGC
      dsimp only at HGC HRR HR2 HMR
      have HGF := Lib.hid (fun (W : World) (i : Nat) (u : Value) (h : CellsAt [(g, 61, #[.slice A n c, .int .i64 sa, .bool pt.1, .bool pt.2.1, .bool pt.2.2.1, .bool pt.2.2.2.1, .bool pt.2.2.2.2, .int .i64 sad, .int .i64 kd, .int .i64 qu, .int .i64 mx, .int .i64 my, .int .i64 pa, .slice A2 xs'.length c2, .int .i64 sx, .int .i64 sy])] W) => CellsAt.far h (p := ⟨h8, i, none⟩) (fun q hq => by rw [List.mem_singleton] at hq; subst hq; exact fun e => (HLB.out _ (by simp [MgL]; exact .inr (.inl rfl)) : _ ∧ h8 ≠ g).2 e.symm) u)
      gi_wp2_with fail
      go_wp2_with fail
      refine wp_region_treeN (fun w' => CellsAt [(g, 61, #[.slice A n c, .int .i64 sa, .bool pt.1, .bool pt.2.1, .bool pt.2.2.1, .bool pt.2.2.2.1, .bool pt.2.2.2.2, .int .i64 sad, .int .i64 kd, .int .i64 qu, .int .i64 mx, .int .i64 my, .int .i64 pa, .slice A2 xs'.length c2, .int .i64 sx, .int .i64 sy])] w') 11 (.take 0 (.take 1 (.take 2 (.take 3 (.take 4 (.take 5 (.take 6 (.take 7 (.take 8 (.take 9 (.step 10 .done))))))))))) (by kernel_rfl) (by kernel_rfl) (by simp only [Pln.out, Array.getD_eq_getD_getElem?, List.getElem?_toArray, List.getElem?_cons_zero, List.getElem?_cons_succ, Option.getD_some]; rfl) (by simp only [List.map_cons, List.map_nil]; rfl) (CellsAt.cons HGC.out (cellsAt_nil _)) (fun PE hPE => ?_)
      iterate 10
        refine tree_take (v := ?_) rfl (by rfl) ?_ ?_
        rotate_left
        · intro _ hSw; (try dsimp only at hSw); have z1 := hSw.head.cell 1; have z7 := hSw.head.cell 7; have z8 := hSw.head.cell 8; have z9 := hSw.head.cell 9; have z10 := hSw.head.cell 10; have z11 := hSw.head.cell 11; have z12 := hSw.head.cell 12; have z13 := hSw.head.cell 13; dsimp only at z1 z7 z8 z9 z10 z11 z12 z13; go_simp; (try with_reducible rfl)
        simp only [List.setIfInBounds_toArray, List.set_cons_zero, List.set_cons_succ]
      refine tree_skip _ (w' := ?_) rfl (by rfl) ?_ ?_ ?_
      rotate_left 1
      · go_simp; (first | (with_reducible rfl) | (constructor <;> with_reducible rfl) | skip)
      · exact CellsAt.drew (HGF.out _ _ _ (HGF.out _ _ _ (HGF.out _ _ _ (HGF.out _ _ _ (HGF.out _ _ _ (HGF.out _ _ _ (HGF.out _ _ _ (CellsAt.cons HGC.out (cellsAt_nil _)))))))))
      refine hPE _ _ ?_
      clear hPE PE
      simp only [List.drop_succ_cons, List.drop_zero, List.drop_nil]
      go_wp2_with fail
      refine ⟨rfl, ?_⟩
      go_wp2_with fail
      rw [Exit.noGoto_ret, HRR.out]
      obtain ⟨hK5, hc6⟩ := mg_last HMR.out HH8.out mgR_e HK.out (Nat.le_trans HB6.out HD.out) ⟨sad, kd, qu, mx, my, pa, bl⟩ (.slice A2 xs'.length c2)
      exact retM hK5 (mget_res h8 ⟨sad, kd, qu, mx, my, pa, bl⟩ (.slice A2 xs'.length c2) (sa - i) 0 _ _ hc6.2.1.head rfl (congrArg (Value.int .i64) HWR.out) rfl) (mg_post hc6 HM.out.symm)
    case stop =>
      rintro D cd pre W2 hD hsp hX hK
      obtain ⟨rfl, hne, _, hmm, hee, hbel⟩ := hX
      have hrr : r = (m0, 0, E) := by
        rcases HRDS.out with ⟨_, h2, _⟩ | ⟨h1, _⟩
        · rw [h2, HEQ.out]
        · rw [HEQ.out] at h1; exact absurd h1 hne
      have HRR := Lib.hid hrr; have HNE := Lib.hid hne; have HMM := Lib.hid hmm; have HEE := Lib.hid hee; have HBel := Lib.hid hbel; have HK := Lib.hid hK; have HD := Lib.hid hD
      have y0 := hee.cell 0
      have q0 := hmm.frozen 0; have q1 := hmm.frozen 1; have q2 := hmm.frozen 2; have q3 := hmm.frozen 3; have q4 := hmm.frozen 4; have q5 := hmm.frozen 5; have q6 := hmm.frozen 6
      have r0 := hmm.cell 0; have r1 := hmm.cell 1; have r2 := hmm.cell 2; have r3 := hmm.cell 3; have r4 := hmm.cell 4; have r5 := hmm.cell 5; have r6 := hmm.cell 6
      unfold MgC m0 at r0 r1 r2 r3 r4 r5 r6
      simp at r0 r1 r2 r3 r4 r5 r6
      (try dsimp only at y0 q0 q1 q2 q3 q4 q5 q6)
      have hne2 : (E != 0) = true := by simpa using hne
      clear hrr hmm hee hbel hK hD hsp hne
      gi_wp2_with fail
      have HEd := Lib.hid (show Blk W2.drew ge 30 #[.int .i64 E] from HEE.out)
      go_wp2_with fail
      refine wp_region_treeN (fun w' => CellsAt [(ge, 30, #[.int .i64 E])] w') 4 (.take 0 (.take 1 (.step 2 (.step 3 .done)))) (by kernel_rfl) (by kernel_rfl) (by simp only [Pln.out, Array.getD_eq_getD_getElem?, List.getElem?_toArray, List.getElem?_cons_zero, List.getElem?_cons_succ, Option.getD_some]; rfl) (by simp only [List.map_cons, List.map_nil]; rfl) (CellsAt.cons HEd.out (cellsAt_nil _)) (fun PE hPE => ?_)
      iterate 2
        refine tree_take (v := ?_) rfl (by rfl) ?_ ?_
        rotate_left
        · intro _ hSw; (try dsimp only at hSw); have z1 := hSw.head.cell 0; dsimp only at z1; go_simp; (try with_reducible rfl)
        simp only [List.setIfInBounds_toArray, List.set_cons_zero, List.set_cons_succ]
      refine tree_skip _ (w' := ?_) rfl (by rfl) ?_ ?_ ?_
      rotate_left 1
      · go_simp; (first | (with_reducible rfl) | (constructor <;> with_reducible rfl) | skip)
      · have hf : ∀ (W : World) (i : Nat) (u : Value), CellsAt [(ge, 30, #[.int .i64 E])] W → CellsAt [(ge, 30, #[.int .i64 E])] (W.setCell ⟨h8, i, none⟩ u) := fun W i u h => CellsAt.far h (p := ⟨h8, i, none⟩) (fun q hq => by rw [List.mem_singleton] at hq; subst hq; exact blk_ne HEE.out HMM.out (by simp)) u
        exact CellsAt.drew (hf _ _ _ (hf _ _ _ (hf _ _ _ (hf _ _ _ (hf _ _ _ (hf _ _ _ (hf _ _ _ (CellsAt.cons HEE.out (cellsAt_nil _)))))))))
      refine tree_value (v := ?_) (w' := ?_) rfl (by rfl) ?_ ?_ ?_
      rotate_left 2
      · go_simp; (try (constructor <;> with_reducible rfl))
      · have hf : ∀ (W : World) (i : Nat) (u : Value), CellsAt [(ge, 30, #[.int .i64 E])] W → CellsAt [(ge, 30, #[.int .i64 E])] (W.setCell ⟨h8, i, none⟩ u) := fun W i u h => CellsAt.far h (p := ⟨h8, i, none⟩) (fun q hq => by rw [List.mem_singleton] at hq; subst hq; exact blk_ne HEE.out HMM.out (by simp)) u
        exact CellsAt.drew (hf _ _ _ (hf _ _ _ (hf _ _ _ (hf _ _ _ (hf _ _ _ (hf _ _ _ (hf _ _ _ (CellsAt.cons HEE.out (cellsAt_nil _)))))))))
      simp only [List.setIfInBounds_toArray, List.set_cons_zero, List.set_cons_succ]
      refine hPE _ _ ?_
      clear hPE PE
      simp only [List.drop_succ_cons, List.drop_zero, List.drop_nil]
      go_wp2_with fail
      refine ⟨rfl, ?_⟩
      go_wp2_with fail
      rw [Exit.noGoto_ret, HRR.out]
      obtain ⟨hK5, hc6⟩ := mg_last (R := mgR w.heap.size (.slice none 0 0) []) ⟨HBel.out, CellsAt.cons HMM.out (cellsAt_nil _), RowsAt.cons (World.ownsRow_nil _ _ _ _) (rowsAt_nil _)⟩ HH8.out mgR_e HK.out (Nat.le_trans HB6.out HD.out) m0 (.slice none 0 0)
      exact retM hK5 (mget_res h8 m0 (.slice none 0 0) 0 E _ _ hc6.2.1.head rfl rfl rfl) (mg_post hc6 rfl)
end Go.Proofs.YtcojnigkgbmbmaaGreatDoor
namespace Go.Proofs.YtcojnigkgbmbmaaGreatDoor
open Go Go.RowKit
attribute [local go_sem] Oper.semAt_some
theorem own_weak {w : World} {b b' : Nat} {e : TypeId} {size n : Nat} {v : Value} {xs : List Value} (h : w.ownsRow b e size v n xs) (hb : b' ≤ b) : w.ownsRow b' e size v n xs := by
  refine ⟨h.1, ?_⟩
  rcases h.2 with h2 | ⟨g, cap, cur, h3, hbg, h4⟩
  · exact .inl h2
  · exact .inr ⟨g, cap, cur, h3, Nat.le_trans hb hbg, h4⟩
theorem pairC_one (L : List (Int × Int)) : ∀ u ∈ rowC pairC L, u.oneCell' = true := by
  intro u hu
  unfold rowC at hu
  obtain ⟨p, _, hp⟩ := List.mem_flatMap.1 hu
  unfold pairC at hp
  simp at hp
  rcases hp with rfl | rfl <;> rfl
def prR (base : Nat) (p : BkE) : RowF := ⟨base, 109, 2, .slice p.2.1 p.1.l.length p.2.2, p.1.l.length, rowC pairC p.1.l⟩
theorem bkC_app (ys : List BkE) (p : BkE) : rowC bkC (ys ++ [p]) = rowC bkC ys ++ [.int .i64 p.1.dc, .slice p.2.1 p.1.l.length p.2.2] := by rw [rowC_app, rowC_one]; rfl
def CBPost (dc : Int) (L : List (Int × Int)) (w : World) (e : Ending) (w' : World) : Prop := ∃ v, e = .returned (.agg #[.int .i64 dc, v]) ∧ Below w.heap.size w w' ∧ w'.ownsRow w.heap.size 109 2 v L.length (rowC pairC L)
set_option maxRecDepth 100000 in
set_option maxHeartbeats 4000000 in
theorem kit_CopyBlock (dc : Int) (L : List (Int × Int)) (A : Option Addr) (n c : Nat) (w : World) (hS : Sl w A (rowC pairC L)) (hn : L.length = n) (hsz : n ≤ 100000) : Calls Tryz.prog 46 #[.agg #[.int .i64 dc, .slice A n c]] w (CBPost dc L w) := by
  have hb1 := ((Below.refl _ w).alloc (Nat.le_refl _) (.cells #[.int .i64 dc, .slice A n c] 81)).alloc (by simp) (.cells #[.int .i64 0, .slice none 0 0] 81)
  have hc1 : Cons w [(w.heap.size, 81, #[.int .i64 dc, .slice A n c]), (w.heap.size + 1, 81, #[.int .i64 0, .slice none 0 0])] [] ((w.alloc (.cells #[.int .i64 dc, .slice A n c] 81)).alloc (.cells #[.int .i64 0, .slice none 0 0] 81)) :=
    ⟨hb1, CellsAt.cons ((Blk.new w _ _).alloc _) (CellsAt.cons (blkAt (Blk.new _ _ _) (by simp)) (cellsAt_nil _)), rowsAt_nil _⟩
  have hc2 := cons_row (cons_alloc hc1 (.cells #[] 109)) (World.ownsRow_lit (base := w.heap.size) (e := 109) (size := 2) ((w.alloc (.cells #[.int .i64 dc, .slice A n c] 81)).alloc (.cells #[.int .i64 0, .slice none 0 0] 81)) #[] 0 hb1.size (by decide) rfl)
  have hsz2 : ((w.alloc (.cells #[.int .i64 dc, .slice A n c] 81)).alloc (.cells #[.int .i64 0, .slice none 0 0] 81)).heap.size = w.heap.size + 1 + 1 := by rw [World.size_alloc, World.size_alloc]
  rw [hsz2] at hc2
  have hS2 := hS.below hc2.1
  have HC2 := Lib.hid hc2; have HS2 := Lib.hid hS2; have HN := Lib.hid hn
  have hlen : (rowC pairC L).length = n * 2 := by rw [rowC_len pairC_len, hn]
  have HLEN := Lib.hid hlen
  clear hb1 hc1 hc2 hS hS2 hlen hn hsz2
  go_enter Tryz.func46, Tryz.ntmps46
  go_wp2_with (at_builtin; refine wpList_app etPair rfl rfl (m := n) (news := rowC pairC L) rfl HC2.out.2.2.head rfl HLEN.out HS2.out (pairC_one L) (by show (0 + n) * 16 ≤ _; omega) HC2.out.1.size ?_; intro v' W' h2 h3 _; have hc3 := cons_app HC2.out h3 h2 (Nat.le_refl _) (by simp) (by simp); obtain ⟨A2, c2, hv2⟩ := own_slN hc3.2.2.head; dsimp only at hv2; subst hv2; have k1 := hc3.2.1.head; have k2 := hc3.2.1.tail.head; have u0 := k1.cell 0; have u1 := k1.cell 1; have f1 := k1.frozen 1; have v0 := k2.cell 0; have v1 := k2.cell 1; have g0 := k2.frozen 0; have g1 := k2.frozen 1; (try dsimp only at u0 u1 f1 v0 v1 g0 g1); have HC3 := Lib.hid hc3; clear h2 h3 hc3 k1 k2)
  have h4 := cons_set HC3.out (Nat.le_refl _) 1 (.slice A2 n c2) (by simp) (by simp)
  have h5 := cons_set (cons_cswap h4) (Nat.le_succ _) 0 (.int .i64 dc) (by simp) (by simp)
  have h6 := cons_set h5 (Nat.le_succ _) 1 (.slice A2 n c2) (by simp) (by simp)
  have s0 := h6.2.1.head.cell 0; have s1 := h6.2.1.head.cell 1
  simp at s0 s1
  refine bodyPost_ret (by simp [results, Tryz.results46, go_sem, s0, s1]; try rfl) rfl ?_
  have hr := h6.2.2.head
  dsimp only at hr
  rw [Nat.zero_add, List.nil_append] at hr
  exact ⟨_, rfl, h6.1, by rw [HN.out]; exact hr⟩
def CMPost (m : MacM) (xs : List BkE) (w : World) (e : Ending) (w' : World) : Prop := ∃ A' c' ys, e = .returned (macV m A' ys.length c') ∧ ys.map (·.1) = xs.map (·.1) ∧ Below w.heap.size w w' ∧ BksAt w' A' ys
set_option maxRecDepth 100000 in
set_option maxHeartbeats 8000000 in
theorem kit_CopyMacro (m : MacM) (xs : List BkE) (A : Option Addr) (c : Nat) (w : World) (hA : BksAt w A xs) : Calls Tryz.prog 16 #[macV m A xs.length c] w (CMPost m xs w) := by
  obtain ⟨n, hn⟩ : ∃ n, xs.length = n := ⟨_, rfl⟩
  rw [hn]
  have hb1 := ((Below.refl _ w).alloc (Nat.le_refl _) (.cells (MgC m (.slice A n c)) 29)).alloc (by simp) (.cells (MgC m0 (.slice none 0 0)) 29)
  have hc1 : Cons w [(w.heap.size, 29, MgC m (.slice A n c)), (w.heap.size + 1, 29, MgC m0 (.slice none 0 0))] (mgR w.heap.size (.slice none 0 0) []) ((w.alloc (.cells (MgC m (.slice A n c)) 29)).alloc (.cells (MgC m0 (.slice none 0 0)) 29)) :=
    ⟨hb1, CellsAt.cons ((Blk.new w _ _).alloc _) (CellsAt.cons (blkAt (Blk.new _ _ _) (by simp)) (cellsAt_nil _)), RowsAt.cons (World.ownsRow_nil _ _ _ _) (rowsAt_nil _)⟩
  have HC1 := Lib.hid hc1; have HA := Lib.hid hA; have HN := Lib.hid hn
  have hn64 : n ≤ 64 := by rw [← hn]; exact hA.len
  unfold macV MgC m0 at *
  obtain ⟨ad, kd, qu, mx, my, pa, bl⟩ := m
  dsimp only at *
  clear hb1 hc1 hA hn
  go_enter Tryz.func16, Tryz.ntmps16
  go_wp2_with fail
  go_loopg [3, 4] n (fun g v t => fun wr => ∃ (j : Nat) (ys : List BkE), j + g = n ∧ t = .int .i64 (j : Int) ∧ Hid (ys.map (·.1) = (xs.take j).map (·.1)) ∧ Hid (Cons w [(w.heap.size, 29, #[.int .i64 ad, .int .i64 kd, .int .i64 qu, .int .i64 mx, .int .i64 my, .int .i64 pa, .slice A n c]), (w.heap.size + 1, 29, #[.int .i64 0, .int .i64 0, .int .i64 0, .int .i64 0, .int .i64 0, .int .i64 0, .slice none 0 0])] (mgR w.heap.size v ys) wr))
  case atStart => exact ⟨0, [], by omega, rfl, Lib.hid rfl, HC1⟩
  case round =>
    obtain ⟨j, ys, hj, rfl, HY, HC⟩ := hrel
    obtain ⟨A1, c1, hv⟩ := own_slN HC.out.2.2.head
    dsimp only at hv
    subst hv
    have e0 := HC.out.2.1.head.cell 0; have e1 := HC.out.2.1.head.cell 1; have e2 := HC.out.2.1.head.cell 2; have e3 := HC.out.2.1.head.cell 3; have e4 := HC.out.2.1.head.cell 4; have e5 := HC.out.2.1.head.cell 5; have e6 := HC.out.2.1.head.cell 6
    have f6 := HC.out.2.1.head.frozen 6
    (try dsimp only at e0 e1 e2 e3 e4 e5 e6 f6)
    have hyl : ys.length = min j n := by
      have := congrArg List.length HY.out
      rw [List.length_map, List.length_map, List.length_take, HN.out] at this
      exact this
    cases gk with
    | zero =>
      obtain rfl : j = n := by omega
      rw [Nat.min_self] at hyl
      have k2 := HC.out.2.1.tail.head
      have r0 := k2.cell 0; have r1 := k2.cell 1; have r2 := k2.cell 2; have r3 := k2.cell 3; have r4 := k2.cell 4; have r5 := k2.cell 5; have r6 := k2.cell 6
      have g0 := k2.frozen 0; have g1 := k2.frozen 1; have g2 := k2.frozen 2; have g3 := k2.frozen 3; have g4 := k2.frozen 4; have g5 := k2.frozen 5; have g6 := k2.frozen 6
      (try dsimp only at r0 r1 r2 r3 r4 r5 r6 g0 g1 g2 g3 g4 g5 g6)
      have HYL := Lib.hid hyl
      clear hj hyl k2
      go_wp2_with fail
      have h4 := cons_set HC.out (Nat.le_refl _) 6 (.slice A1 ys.length c1) (by simp) (by simpa using mgR_e)
      have h5 := mg_cons (m := m0) (v := .slice none 0 0) (cons_drop h4) (Nat.le_succ _) mgR_e ⟨ad, kd, qu, mx, my, pa, bl⟩ (.slice A1 ys.length c1)
      unfold MgC at h5
      dsimp only at h5
      have k5 := h5.2.1.head
      have s0 := k5.cell 0; have s1 := k5.cell 1; have s2 := k5.cell 2; have s3 := k5.cell 3; have s4 := k5.cell 4; have s5 := k5.cell 5; have s6 := k5.cell 6
      simp at s0 s1 s2 s3 s4 s5 s6
      refine bodyPost_ret (by simp [results, Tryz.results16, go_sem, s0, s1, s2, s3, s4, s5, s6]; try rfl) rfl ?_
      have hmap : ys.map (·.1) = xs.map (·.1) := by
        have := HY.out
        rwa [List.take_of_length_le (by have := HN.out; omega)] at this
      refine ⟨A1, c1, ys, rfl, hmap, h5.1, ⟨?_, fun p hp => ?_, by rw [HYL.out]; exact hn64, fun p hp => ?_⟩⟩
      · obtain ⟨A', c', e, hs⟩ := own_sl2 h5.2.2.head
        cases e
        exact hs
      · have hr := h5.2.2 (prR w.heap.size p) (List.mem_cons_of_mem _ (List.mem_map.2 ⟨p, hp, rfl⟩))
        obtain ⟨A', c', e, hs⟩ := own_sl2 hr
        unfold prR at e
        cases e
        exact hs
      · have h1 : p.1 ∈ ys.map (·.1) := List.mem_map.2 ⟨p, hp, rfl⟩
        rw [hmap] at h1
        obtain ⟨x, hx, hxe⟩ := List.mem_map.1 h1
        rw [← hxe]
        exact HA.out.lens x hx
    | succ g =>
      have hlt : ((j : Int) < (n : Int)) := by omega
      have hjl : j < xs.length := by have := HN.out; omega
      obtain ⟨ad9, rfl, _, c0, c1'⟩ := sl_bk (HA.out.row.below HC.out.1) j hjl
      have hbl := (HA.out.bl xs[j] (List.getElem_mem hjl)).below HC.out.1
      have hbn := HA.out.lens xs[j] (List.getElem_mem hjl)
      have htk : (xs.take (j + 1)).map (·.1) = (xs.take j).map (·.1) ++ [xs[j].1] := by
        rw [List.take_add_one, List.getElem?_eq_getElem hjl, List.map_append]
        rfl
      obtain ⟨⟨⟨dc, L⟩, B9, c9⟩, hx⟩ : ∃ x, xs[j] = x := ⟨_, rfl⟩
      rw [hx] at c0 c1' hbl hbn htk
      dsimp only at c0 c1' hbl hbn htk
      obtain ⟨ln, hln⟩ : ∃ ln, L.length = ln := ⟨_, rfl⟩
      rw [hln] at c1' hbn
      have CB := Lib.hid (kit_CopyBlock dc L B9 ln c9 wr hbl hln (by omega))
      have HTK := Lib.hid htk; have HLN := Lib.hid hln; have HJ := Lib.hid hj
      have hw1 : IntKind.i64.wrap ((j : Int) + 1) = (j : Int) + 1 := by rw [IntKind.wrap_i64]; omega
      obtain ⟨k, hk⟩ : ∃ k, ys.length = k := ⟨_, rfl⟩
      have hk64 : k ≤ 64 := by omega
      have HK := Lib.hid hk
      rw [hk]
      clear hbl hbn htk hx hln hj hjl hyl hk e0 e1 e2 e3 e4 e5 f6
      go_wp2_with fail
      refine CB.out.mono ?_
      rintro e w3 ⟨v3, rfl, hb3, hr3⟩
      obtain ⟨A3, c3, hv3⟩ := own_slN hr3
      subst hv3
      have hc3 := cons_below HC.out hb3
      have hr4 := own_weak hr3 HC.out.1.size
      have hc4 : Cons w [(w.heap.size, 29, #[.int .i64 ad, .int .i64 kd, .int .i64 qu, .int .i64 mx, .int .i64 my, .int .i64 pa, .slice (some ad9) n c]), (w.heap.size + 1, 29, #[.int .i64 0, .int .i64 0, .int .i64 0, .int .i64 0, .int .i64 0, .int .i64 0, .slice none 0 0])] (⟨w.heap.size, 81, 2, .slice A1 k c1, k, rowC bkC ys⟩ :: prR w.heap.size (⟨dc, L⟩, A3, c3) :: ys.map (prR w.heap.size)) w3 := by
        refine ⟨hc3.1, hc3.2.1, fun r hr => ?_⟩
        rcases List.mem_cons.1 hr with rfl | hr
        · have := hc3.2.2.head
          dsimp only at this
          rw [HK.out] at this
          exact this
        · rcases List.mem_cons.1 hr with rfl | hr
          · exact hr4
          · exact hc3.2.2 r (List.mem_cons_of_mem _ hr)
      rw [HLN.out]
      have HC4 := Lib.hid hc4
      have HRE : Hid (∀ r ∈ prR w.heap.size (⟨dc, L⟩, A3, c3) :: ys.map (prR w.heap.size), r.e ≠ 81) := Lib.hid (fun r hr => by
        have : r.e = 109 := by
          rcases List.mem_cons.1 hr with rfl | hr
          · rfl
          · obtain ⟨p, _, rfl⟩ := List.mem_map.1 hr
            rfl
        rw [this]
        decide)
      clear hb3 hr3 hc3 hr4 hc4 c0 c1' e6 CB
      go_wp2_with (at_builtin; refine wpList_appC etBlock rfl rfl 1 [.int .i64 dc, .slice A3 ln c3] rfl HC4.out rfl rfl (by intro u hu; simp at hu; rcases hu with rfl | rfl <;> rfl) (by omega) ⟨Nat.le_refl _, HC4.out.1.size⟩ (by simp) HRE.out ?_; intro v' W5 hc5; have HC5 := Lib.hid hc5; clear hc5)
      go_roundg g
      case measure => omega
      case rel =>
        refine ⟨j + 1, ys ++ [(⟨dc, L⟩, A3, c3)], by have := HJ.out; omega, rfl, Lib.hid ?_, Lib.hid ?_⟩
        · rw [HTK.out, List.map_append, HY.out]; rfl
        · have h := HC5.out
          refine ⟨h.1, h.2.1, fun r hr => ?_⟩
          unfold mgR at hr
          rcases List.mem_cons.1 hr with rfl | hr
          · have := h.2.2.head
            dsimp only at this ⊢
            rw [bkC_app, List.length_append, HK.out]
            dsimp only
            rw [HLN.out]
            exact this
          · rw [List.map_append] at hr
            rcases List.mem_append.1 hr with hr | hr
            · exact h.2.2 r (List.mem_cons_of_mem _ (List.mem_cons_of_mem _ hr))
            · rw [List.map_cons, List.map_nil, List.mem_singleton] at hr
              subst hr
              exact h.2.2 _ (List.mem_cons_of_mem _ (List.mem_cons_self ..))
end Go.Proofs.YtcojnigkgbmbmaaGreatDoor
