/- MGet, Copy, Ref19gE, Ref19gR -/
import Derived.Test.YtcojnigkgbmbmaaGreatDoorR29
import Derived.Test.YtcojnigkgbmbmaaGreatDoorR02
import Derived.Test.YtcojnigkgbmbmaaGreatDoorR28
import Derived.Deep.DeepCutAuto
namespace Go.Proofs.YtcojnigkgbmbmaaGreatDoor
open Go Go.RowKit
attribute [local go_sem] Oper.semAt_some
def MgC (m : MacM) (v : Value) : Array Value := #[.int .i64 m.ad, .int .i64 m.kd, .int .i64 m.qu, .int .i64 m.x, .int .i64 m.y, .int .i64 m.pa, v]
structure MGPost (w : World) (r : MacM × Int × Int) (e : Ending) (W' : World) : Prop where
  below : Below w.heap.size w W'
  ex : ∃ v, ∃ xs : List BkE, e = .returned (.tuple #[.agg (MgC r.1 v), .int .i64 r.2.1, .int .i64 r.2.2]) ∧ r.1.bl = xs.map (·.1) ∧ W'.ownsRow w.heap.size 81 2 v xs.length (rowC bkC xs) ∧ ∀ p ∈ xs, W'.ownsRow w.heap.size 109 2 (.slice p.2.1 p.1.l.length p.2.2) p.1.l.length (rowC pairC p.1.l)
theorem mget_res (h : Nat) (m : MacM) (v : Value) (n e : Int) (tmps : Array Value) (W : World) (hb : Blk W h 29 (MgC m v)) (t8 : tmps.getD 8 undef = .pointer (some ⟨h, 0, none⟩)) (t9 : tmps.getD 9 undef = .int .i64 n) (t10 : tmps.getD 10 undef = .int .i64 e) :
    (results Tryz.f11 tmps).run Tryz.prog W = .ok (.tuple #[.agg (MgC m v), .int .i64 n, .int .i64 e]) W := by
  unfold MgC at *
  have c0 := hb.cell 0; have c1 := hb.cell 1; have c2 := hb.cell 2; have c3 := hb.cell 3; have c4 := hb.cell 4; have c5 := hb.cell 5; have c6 := hb.cell 6
  simp at c0 c1 c2 c3 c4 c5 c6
  have t8' : tmps[8]?.getD undef = .pointer (some ⟨h, 0, none⟩) := by simpa using t8
  have t9' : tmps[9]?.getD undef = .int .i64 n := by simpa using t9
  have t10' : tmps[10]?.getD undef = .int .i64 e := by simpa using t10
  simp [results, Tryz.results11, t8', t9', t10', asAddr, c0, c1, c2, c3, c4, c5, c6, go_sem]
theorem mg_zero {W : World} {h : Nat} {m : MacM} {v : Value} (hb : Blk W h 29 (MgC m v)) (a : MacM) (u : Value) : Blk (((((((W.setCell ⟨h, 0, none⟩ (.int .i64 a.ad)).setCell ⟨h, 1, none⟩ (.int .i64 a.kd)).setCell ⟨h, 2, none⟩ (.int .i64 a.qu)).setCell ⟨h, 3, none⟩ (.int .i64 a.x)).setCell ⟨h, 4, none⟩ (.int .i64 a.y)).setCell ⟨h, 5, none⟩ (.int .i64 a.pa)).setCell ⟨h, 6, none⟩ u) h 29 (MgC a u) := by
  have h1 := ((((((hb.set_ 0 (.int .i64 a.ad)).set_ 1 (.int .i64 a.kd)).set_ 2 (.int .i64 a.qu)).set_ 3 (.int .i64 a.x)).set_ 4 (.int .i64 a.y)).set_ 5 (.int .i64 a.pa)).set_ 6 u
  unfold MgC at *
  simp only [List.setIfInBounds_toArray, List.set_cons_zero, List.set_cons_succ] at h1
  exact h1
theorem mg_below {w W : World} {h : Nat} (hb : Below w.heap.size w W) (hh : w.heap.size ≤ h) (a : MacM) (u : Value) : Below w.heap.size w (((((((W.setCell ⟨h, 0, none⟩ (.int .i64 a.ad)).setCell ⟨h, 1, none⟩ (.int .i64 a.kd)).setCell ⟨h, 2, none⟩ (.int .i64 a.qu)).setCell ⟨h, 3, none⟩ (.int .i64 a.x)).setCell ⟨h, 4, none⟩ (.int .i64 a.y)).setCell ⟨h, 5, none⟩ (.int .i64 a.pa)).setCell ⟨h, 6, none⟩ u) :=
  ((((((hb.setCell hh _).setCell hh _).setCell hh _).setCell hh _).setCell hh _).setCell hh _).setCell hh _
theorem mg_fail {w W : World} (e : Int) (hb : Below w.heap.size w W) : MGPost w (m0, 0, e) (.returned (.tuple #[.agg (MgC m0 (.slice none 0 0)), .int .i64 0, .int .i64 e])) W :=
  ⟨hb, .slice none 0 0, [], rfl, rfl, World.ownsRow_nil _ _ _ _, fun p hp => by cases hp⟩
theorem RdI.setE {w0 W : World} {g ge : Nat} {A : Option Addr} {n c : Nat} {l : List UInt8} {s0 : RdS} {L : List CellF} {ts : List Nat} {u : Nat} {cs : Array Value} (h : RdI w0 g A n c l s0 L ts u W) (hge : w0.heap.size ≤ ge) (hb : Blk W ge 30 cs) (v : Value) (hL : CellsAt L (W.setCell ⟨ge, 0, none⟩ v)) : RdI w0 g A n c l s0 L ts u (W.setCell ⟨ge, 0, none⟩ v) := by
  obtain ⟨⟨s, bl, v', xs, h1, hr, h3⟩, hc⟩ := h
  refine ⟨⟨s, bl, v', xs, h1, ⟨hr.below.setCell (p := ⟨ge, 0, none⟩) hge _, hr.cell.far (p := ⟨ge, 0, none⟩) (blk_ne hr.cell hb (by simp)) v, ?_, fun q hq => ?_⟩, h3⟩, hL⟩
  · exact own_keep hr.row (fun g' cs' hb' => hb'.far (p := ⟨ge, 0, none⟩) (blk_ne hb' hb (by simp)) v)
  · exact own_keep (hr.bl q hq) (fun g' cs' hb' => hb'.far (p := ⟨ge, 0, none⟩) (blk_ne hb' hb (by simp)) v)
structure MgX (w : World) (g : Nat) (A : Option Addr) (n c : Nat) (pt : Bool × Bool × Bool × Bool × Bool) (x y : Int) (bc h8 ge : Nat) (E : Int) (cd : Code) (W : World) : Prop where
  cd : cd = .exit 1
  ne : E ≠ 0
  st : StS g A n c pt x y [(bc, 57, #[.pointer (some ⟨g, 0, none⟩)])] W
  mm : Blk W h8 29 (MgC m0 (.slice none 0 0))
  ee : Blk W ge 30 #[.int .i64 E]
  below : Below w.heap.size w W
theorem mgx_own {w : World} {g : Nat} {A : Option Addr} {n c : Nat} {pt : Bool × Bool × Bool × Bool × Bool} {x y : Int} {bc h8 ge : Nat} {E : Int} {cd : Code} {B : Nat} (hB : w.heap.size ≤ B) : OwnFrom B (fun (_ : List SEl) W => MgX w g A n c pt x y bc h8 ge E cd W) := by
  rintro pre W W' row ⟨h1, h2, ⟨h3, s, h4, h5⟩, h6, h7, h8'⟩ hg hrow
  exact ⟨h1, h2, ⟨h3.grown hg (fun r e => (hrow r e).2), s, blk_grown' h4 hg (fun r e => (hrow r e).2), h5⟩, blk_grown' h6 hg (fun r e => (hrow r e).2), blk_grown' h7 hg (fun r e => (hrow r e).2), below_grown' h8' hg (fun r e => Nat.le_trans hB (hrow r e).1) h8'.size⟩
theorem runS_ad (l : List UInt8) : ∀ (ts : List Nat) {s s' : RdS} {bl bl' : List BlkM}, runS l ts s bl = ((s', bl'), 0) → s'.ad = s.ad
  | [], s, s', bl, bl', h => by
    simp only [runS, Prod.mk.injEq, and_true] at h
    obtain ⟨rfl, rfl⟩ := h
    rfl
  | t :: ts, s, s', bl, bl', h => by
    rw [runS_cons] at h
    split at h
    · rename_i he
      rw [(Prod.mk.inj h).2] at he
      cases he
    · have h1 := runS_ad l ts h
      have h2 : (ahdS s t).ad = s.ad := by unfold ahdS; split <;> rfl
      have h3 : (stpS l (ahdS s t) t).1.1.ad = (ahdS s t).ad := by
        unfold stpS
        split
        · rfl
        · split <;> rfl
        · split <;> rfl
        · split <;> rfl
        · rfl
        · rfl
      rw [h1, h3, h2]
theorem mg_cons {w W : World} {h : Nat} {m : MacM} {v : Value} {R : List RowF} (hc : Cons w [(h, 29, MgC m v)] R W) (hh : w.heap.size ≤ h) (hR : ∀ r ∈ R, r.e ≠ 29) (a : MacM) (u : Value) :
    Cons w [(h, 29, MgC a u)] R (((((((W.setCell ⟨h, 0, none⟩ (.int .i64 a.ad)).setCell ⟨h, 1, none⟩ (.int .i64 a.kd)).setCell ⟨h, 2, none⟩ (.int .i64 a.qu)).setCell ⟨h, 3, none⟩ (.int .i64 a.x)).setCell ⟨h, 4, none⟩ (.int .i64 a.y)).setCell ⟨h, 5, none⟩ (.int .i64 a.pa)).setCell ⟨h, 6, none⟩ u) := by
  have one : ∀ {W : World} {cs : Array Value} (i : Nat) (u : Value), Cons w [(h, 29, cs)] R W → Cons w [(h, 29, cs.setIfInBounds i u)] R (W.setCell ⟨h, i, none⟩ u) := fun {W cs} i u hc => by
    have h2 := cons_store hc hh i u (h, 29, cs) (by simp) rfl hR
    simpa [setL] using h2
  have h1 := one 6 u (one 5 (.int .i64 a.pa) (one 4 (.int .i64 a.y) (one 3 (.int .i64 a.x) (one 2 (.int .i64 a.qu) (one 1 (.int .i64 a.kd) (one 0 (.int .i64 a.ad) hc))))))
  unfold MgC at h1 ⊢
  simp only [List.setIfInBounds_toArray, List.set_cons_zero, List.set_cons_succ] at h1
  exact h1
def mgR (b : Nat) (v : Value) (xs : List BkE) : List RowF := ⟨b, 81, 2, v, xs.length, rowC bkC xs⟩ :: xs.map fun p => ⟨b, 109, 2, .slice p.2.1 p.1.l.length p.2.2, p.1.l.length, rowC pairC p.1.l⟩
theorem mgR_e {b : Nat} {v : Value} {xs : List BkE} : ∀ r ∈ mgR b v xs, r.e ≠ 29 := by
  intro r hr
  unfold mgR at hr
  rcases List.mem_cons.1 hr with rfl | hr
  · simp
  · obtain ⟨p, _, rfl⟩ := List.mem_map.1 hr
    simp
theorem mg_post {w W : World} {h : Nat} {m : MacM} {v : Value} {xs : List BkE} {n e : Int} (hc : Cons w [(h, 29, MgC m v)] (mgR w.heap.size v xs) W) (hm : m.bl = xs.map (·.1)) : MGPost w (m, n, e) (.returned (.tuple #[.agg (MgC m v), .int .i64 n, .int .i64 e])) W :=
  ⟨hc.1, v, xs, rfl, hm, hc.2.2.head, fun p hp => hc.2.2.tail ⟨w.heap.size, 109, 2, .slice p.2.1 p.1.l.length p.2.2, p.1.l.length, rowC pairC p.1.l⟩ (List.mem_map.2 ⟨p, hp, rfl⟩)⟩
theorem mg_rows {w0 W : World} {g : Nat} {A : Option Addr} {n c : Nat} {s : RdS} {xs : List BkE} {L : List CellF} (h : RdW w0 g A n c s xs W) (hc : CellsAt L W) : Cons w0 L (mgR w0.heap.size s.v xs) W := by
  refine ⟨h.below, hc, RowsAt.cons h.row (fun r hr => ?_)⟩
  obtain ⟨p, hp, rfl⟩ := List.mem_map.1 hr
  exact h.bl p hp
theorem mg_D {W : World} {h D : Nat} {m : MacM} {v : Value} {x : Option (List Deferred)} (hb : Blk W h 29 (MgC m v)) (hK : W.heap[D]? = some (.deferred x)) : D ≠ h := by
  rintro rfl
  have h1 : W.heap[D]? = some (.cells (MgC m v) 29 (0, 0)) := hb
  rw [hK] at h1
  cases h1
theorem mg_keepD {W : World} {h D : Nat} (hne : D ≠ h) (u0 u1 u2 u3 u4 u5 u6 : Value) : (((((((W.setCell ⟨h, 0, none⟩ u0).setCell ⟨h, 1, none⟩ u1).setCell ⟨h, 2, none⟩ u2).setCell ⟨h, 3, none⟩ u3).setCell ⟨h, 4, none⟩ u4).setCell ⟨h, 5, none⟩ u5).setCell ⟨h, 6, none⟩ u6).heap[D]? = W.heap[D]? := by
  rw [Below.heap_setCell _ _ _ D hne, Below.heap_setCell _ _ _ D hne, Below.heap_setCell _ _ _ D hne, Below.heap_setCell _ _ _ D hne, Below.heap_setCell _ _ _ D hne, Below.heap_setCell _ _ _ D hne, Below.heap_setCell _ _ _ D hne]
/-- the last world, the deferred record struck. -/
theorem mg_last {w W : World} {h D : Nat} {m : MacM} {v : Value} {R : List RowF} (hc : Cons w [(h, 29, MgC m v)] R W) (hh : w.heap.size ≤ h) (hR : ∀ r ∈ R, r.e ≠ 29) (hK : W.heap[D]? = some (.deferred (some []))) (hD : w.heap.size ≤ D) (a : MacM) (u : Value) :
    (((((((W.setCell ⟨h, 0, none⟩ (.int .i64 a.ad)).setCell ⟨h, 1, none⟩ (.int .i64 a.kd)).setCell ⟨h, 2, none⟩ (.int .i64 a.qu)).setCell ⟨h, 3, none⟩ (.int .i64 a.x)).setCell ⟨h, 4, none⟩ (.int .i64 a.y)).setCell ⟨h, 5, none⟩ (.int .i64 a.pa)).setCell ⟨h, 6, none⟩ u).drew.heap[D]? = some (.deferred (some [])) ∧
    Cons w [(h, 29, MgC a u)] R ((((((((W.setCell ⟨h, 0, none⟩ (.int .i64 a.ad)).setCell ⟨h, 1, none⟩ (.int .i64 a.kd)).setCell ⟨h, 2, none⟩ (.int .i64 a.qu)).setCell ⟨h, 3, none⟩ (.int .i64 a.x)).setCell ⟨h, 4, none⟩ (.int .i64 a.y)).setCell ⟨h, 5, none⟩ (.int .i64 a.pa)).setCell ⟨h, 6, none⟩ u).drew.putObj D (.deferred none)) := by
  have hd : ∀ X : World, X.heap[D]? = some (.deferred (some [])) → X.drew.heap[D]? = some (.deferred (some [])) := fun X h => h
  have h0 := (mg_keepD (mg_D hc.2.1.head hK) (.int .i64 a.ad) (.int .i64 a.kd) (.int .i64 a.qu) (.int .i64 a.x) (.int .i64 a.y) (.int .i64 a.pa) u).trans hK
  have hm := mg_cons hc hh hR a u
  generalize ((((((W.setCell ⟨h, 0, none⟩ (.int .i64 a.ad)).setCell ⟨h, 1, none⟩ (.int .i64 a.kd)).setCell ⟨h, 2, none⟩ (.int .i64 a.qu)).setCell ⟨h, 3, none⟩ (.int .i64 a.x)).setCell ⟨h, 4, none⟩ (.int .i64 a.y)).setCell ⟨h, 5, none⟩ (.int .i64 a.pa)).setCell ⟨h, 6, none⟩ u = X at h0 hm ⊢
  exact ⟨hd X h0, cons_put (cons_drew hm) (hd X h0) rfl hD⟩
def MgL (g bc h8 ge : Nat) : List CellF := (bc, 57, #[.pointer (some ⟨g, 0, none⟩)]) :: [(h8, 29, MgC m0 (.slice none 0 0)), (ge, 30, #[.int .i64 0])]
theorem mgl_set {W : World} {g bc h8 ge : Nat} (h : CellsAt (MgL g bc h8 ge) W) : CellsAt (MgL g bc h8 ge) (W.setCell ⟨ge, 0, none⟩ (.int .i64 0)) := by
  unfold MgL at *
  have h1 := h.head; have h2 := h.tail.head; have h3 := h.tail.tail.head
  refine CellsAt.cons (h1.far (p := ⟨ge, 0, none⟩) (blk_ne h1 h3 (by simp)) _) (CellsAt.cons (h2.far (p := ⟨ge, 0, none⟩) (blk_ne h2 h3 (by simp)) _) (CellsAt.cons ?_ (cellsAt_nil _)))
  exact h3.set_ 0 (.int .i64 0)
/-- behind a step that failed. -/
theorem mgx_of {w W : World} {g bc h8 ge : Nat} {A : Option Addr} {n c : Nat} {l : List UInt8} {s0 : RdS} {ts : List Nat} {t : Nat} {er E : Int} (hge : w.heap.size ≤ ge) (hE : (rdAll l s0).2 = E) (h : RdE w g A n c l s0 (MgL g bc h8 ge) ts t er W) (hne : er ≠ 0) : MgX w g A n c (stpS l s0 0).1.1.pt s0.x s0.y bc h8 ge E (.exit 1) (W.setCell ⟨ge, 0, none⟩ (.int .i64 er)) := by
  obtain ⟨hb, hc, ⟨s, hs, h1⟩, _, hno⟩ := h
  have he : E = er := hE.symm.trans (hno hne)
  unfold MgL at hc
  have k1 := hc.head; have k2 := hc.tail.head; have k3 := hc.tail.tail.head
  refine ⟨rfl, by rw [he]; exact hne, ⟨CellsAt.cons (k1.far (p := ⟨ge, 0, none⟩) (blk_ne k1 k3 (by simp)) _) (cellsAt_nil _), s, hs.far (p := ⟨ge, 0, none⟩) (blk_ne hs k3 (by simp)) _, h1⟩, k2.far (p := ⟨ge, 0, none⟩) (blk_ne k2 k3 (by simp)) _, ?_, hb.setCell (p := ⟨ge, 0, none⟩) hge _⟩
  rw [he]
  exact k3.set_ 0 (.int .i64 er)
set_option maxRecDepth 100000 in
set_option maxHeartbeats 40000000 in
theorem macro_Get (A : Option Addr) (n c : Nat) (l : List UInt8) (i ad : Int) (x : LastM) (w : World) (hA : Sl w A (l.map byteV)) (hn : l.length = n) (hsz : n ≤ 2 ^ 47) (hT : Ts w) (hi : -9223372036854775808 ≤ i ∧ i ≤ 9223372036854775807) :
    Calls Tryz.prog 11 #[.slice A n c, .int .i64 i, .int .i64 ad, lastV x] w (MGPost w (mgetP l i ad x)) := by
  obtain ⟨r, hr⟩ : ∃ r, mgetP l i ad x = r := ⟨_, rfl⟩
  have hAH := Lib.hid (fun W => macro_ahead x ad W)
  have hPR := Lib.hid (fun W h1 h2 h3 => macro_predictor x ad W h1 h2 h3)
  have hall := Lib.hid (fun v h1 h2 => mget_all l i ad x v h1 h2)
  rw [hr] at hall ⊢
  have HA := Lib.hid hA; have HN := Lib.hid hn; have HT := Lib.hid hT
  clear hA hn hT
  have hB1 : Below w.heap.size w (w.alloc (.cells #[.int .i64 x.ad, .bool x.had, .int .i64 x.x, .int .i64 x.y] 24)) := (Below.refl _ _).alloc (Nat.le_refl _) _
  have hB0 := hB1.alloc hB1.size (.cells #[.int .i64 0, .int .i64 0, .int .i64 0, .int .i64 0, .int .i64 0, .int .i64 0, .slice none 0 0] 29)
  have hM0 : Blk ((w.alloc (.cells #[.int .i64 x.ad, .bool x.had, .int .i64 x.x, .int .i64 x.y] 24)).alloc (.cells #[.int .i64 0, .int .i64 0, .int .i64 0, .int .i64 0, .int .i64 0, .int .i64 0, .slice none 0 0] 29)) (w.heap.size + 1) 29 (MgC m0 (.slice none 0 0)) := blkAt (Blk.new _ _ _) (by simp)
  have HB0 := Lib.hid hB0; have HM0 := Lib.hid hM0
  clear hB1 hB0 hM0
  by_cases h1 : i < 0 ∨ ad < 1 ∨ 33 < ad
  · have hr1 : r = (m0, 0, 3) := by rw [← hr]; unfold mgetP; rw [if_pos h1]
    subst hr1
    unfold lastV
    clear hr hall hAH hPR
    rcases Decidable.em (i < 0) with h2 | h2
    · skip
      refine (callsIn_wide (n := 5)).1 ?_
      refine callsIn_of_wp_marks Tryz.func11 rfl trivial ?_ rfl
      simp only [Tryz.ntmps11, List.size_toArray, List.length_cons, List.length_nil, Nat.reduceAdd, Nat.reduceSub, Array.replicate_succ, Array.replicate_zero, List.push_toArray, List.append_toArray, List.nil_append, List.cons_append]
      refine wpIn_wide.2 ?_
      go_wp2_with fail
      go_step3
      go_wp2_with fail
      rw [Exit.noGoto_ret]
      exact retN (mget_res (w.heap.size + 1) m0 (.slice none 0 0) 0 3 _ _ HM0.out rfl rfl rfl) (mg_fail 3 HB0.out)
    · rcases Decidable.em (ad < 1) with h3 | h3
      · skip
        refine (callsIn_wide (n := 5)).1 ?_
        refine callsIn_of_wp_marks Tryz.func11 rfl trivial ?_ rfl
        simp only [Tryz.ntmps11, List.size_toArray, List.length_cons, List.length_nil, Nat.reduceAdd, Nat.reduceSub, Array.replicate_succ, Array.replicate_zero, List.push_toArray, List.append_toArray, List.nil_append, List.cons_append]
        refine wpIn_wide.2 ?_
        go_wp2_with fail
        go_step3
        go_wp2_with fail
        rw [Exit.noGoto_ret]
        exact retN (mget_res (w.heap.size + 1) m0 (.slice none 0 0) 0 3 _ _ HM0.out rfl rfl rfl) (mg_fail 3 HB0.out)
      · have h4 : 33 < ad := by omega
        refine (callsIn_wide (n := 5)).1 ?_
        refine callsIn_of_wp_marks Tryz.func11 rfl trivial ?_ rfl
        simp only [Tryz.ntmps11, List.size_toArray, List.length_cons, List.length_nil, Nat.reduceAdd, Nat.reduceSub, Array.replicate_succ, Array.replicate_zero, List.push_toArray, List.append_toArray, List.nil_append, List.cons_append]
        refine wpIn_wide.2 ?_
        go_wp2_with fail
        go_step3
        go_wp2_with fail
        rw [Exit.noGoto_ret]
        exact retN (mget_res (w.heap.size + 1) m0 (.slice none 0 0) 0 3 _ _ HM0.out rfl rfl rfl) (mg_fail 3 HB0.out)
  have hnot := Lib.hid h1
  have k1 : ¬ i < 0 := by omega
  have k2 : ¬ ad < 1 := by omega
  have k3 : ¬ 33 < ad := by omega
  clear h1
  cases hx : aheadB x ad with
  | false =>
    have hr1 : r = (m0, 0, 2) := by rw [← hr]; unfold mgetP; rw [if_neg hnot.out, hx]; rfl
    subst hr1
    rw [hx] at hAH
    have HAH := hAH
    unfold lastV at HAH ⊢
    clear hr hall hAH hPR
    refine (callsIn_wide (n := 5)).1 ?_
    refine callsIn_of_wp_marks Tryz.func11 rfl trivial ?_ rfl
    simp only [Tryz.ntmps11, List.size_toArray, List.length_cons, List.length_nil, Nat.reduceAdd, Nat.reduceSub, Array.replicate_succ, Array.replicate_zero, List.push_toArray, List.append_toArray, List.nil_append, List.cons_append]
    refine wpIn_wide.2 ?_
    go_wp2_with fail
    go_step3
    go_wp2_with (go_at_call 32; refine (HAH.out _).mono ?_; rintro e w2 ⟨rfl, hb2⟩; have HB2 := Lib.hid hb2; have HM2 := Lib.hid (HM0.out.below hb2 HM0.out.lt); clear hb2; have HM3 := HM2.out; unfold MgC m0 at HM3; have z0 := HM3.frozen 0; have z1 := HM3.frozen 1; have z2 := HM3.frozen 2; have z3 := HM3.frozen 3; have z4 := HM3.frozen 4; have z5 := HM3.frozen 5; have z6 := HM3.frozen 6; have y0 := HM3.cell 0; have y1 := HM3.cell 1; have y2 := HM3.cell 2; have y3 := HM3.cell 3; have y4 := HM3.cell 4; have y5 := HM3.cell 5; have y6 := HM3.cell 6; clear HM3; simp at y0 y1 y2 y3 y4 y5 y6)
    rw [Exit.noGoto_ret]
    exact retN (mget_res (w.heap.size + 1) m0 (.slice none 0 0) 0 2 _ _ (mg_zero HM2.out m0 (.slice none 0 0)) rfl rfl rfl) (mg_fail 2 (mg_below (HB0.out.trans (HB2.out.mono HB0.out.size)) (by omega) m0 (.slice none 0 0)))
  | true =>
    rw [hx] at hAH
    have hax := hx
    unfold aheadB at hax
    simp only [Bool.and_eq_true, decide_eq_true_eq] at hax
    have HPR := Lib.hid (fun W => hPR.out W hax.1.1.1.1 hax.1.1.1.2 (by omega))
    have HPP := Lib.hid (pred_part hx)
    have HALL := Lib.hid (fun v => hall.out v hnot.out hx)
    have HAH := hAH
    obtain ⟨⟨px, py⟩, hpr⟩ : ∃ pr, predP ad (ad - x.ad) x.had x.x x.y = pr := ⟨_, rfl⟩
    rw [hpr] at HPR HPP
    have HRD : Hid (∀ v, rd0 i ad x v = ⟨i, (false, false, false, false, false), ad, 0, 0, 0, 0, 0, v, px, py⟩) := Lib.hid (fun v => by unfold rd0; rw [hpr])
    unfold lastV at HAH HPR ⊢
    dsimp only at HPR
    clear hr hall hAH hPR hax hpr hx
    refine (callsIn_wide (n := 5)).1 ?_
    refine callsIn_of_wp_marks Tryz.func11 rfl trivial ?_ rfl
    simp only [Tryz.ntmps11, List.size_toArray, List.length_cons, List.length_nil, Nat.reduceAdd, Nat.reduceSub, Array.replicate_succ, Array.replicate_zero, List.push_toArray, List.append_toArray, List.nil_append, List.cons_append]
    refine wpIn_wide.2 ?_
    go_wp2_with fail
    go_step3
    go_wp2_with (first | (go_at_call 32; refine (HAH.out _).mono ?_; rintro e w2 ⟨rfl, hb2⟩; have HB2 := Lib.hid (HB0.out.trans (hb2.mono HB0.out.size)); have HM2 := Lib.hid (HM0.out.below hb2 HM0.out.lt); have hbl := ((Blk.new w 24 #[.int .i64 x.ad, .bool x.had, .int .i64 x.x, .int .i64 x.y]).alloc (.cells #[.int .i64 0, .int .i64 0, .int .i64 0, .int .i64 0, .int .i64 0, .int .i64 0, .slice none 0 0] 29)).below hb2 (by simp; omega); clear hb2; have HBL := Lib.hid hbl; have x0 := hbl.cell 0; have x1 := hbl.cell 1; have x2 := hbl.cell 2; have x3 := hbl.cell 3; clear hbl; (try dsimp only at x0 x1 x2 x3); obtain ⟨g, hg⟩ : ∃ g, w2.heap.size = g := ⟨_, rfl⟩; have hba := HBL.out.alloc (.cells #[.slice A n c, .int .i64 i, .bool false, .bool false, .bool false, .bool false, .bool false, .int .i64 ad, .int .i64 0, .int .i64 0, .int .i64 0, .int .i64 0, .int .i64 0, .slice none 0 0, .int .i64 0, .int .i64 0] 61); have u0 := hba.cell 0; have u1 := hba.cell 1; have u2 := hba.cell 2; have u3 := hba.cell 3; clear hba; (try dsimp only at u0 u1 u2 u3); have HRB := Lib.hid (blkAt (Blk.new w2 61 #[.slice A n c, .int .i64 i, .bool false, .bool false, .bool false, .bool false, .bool false, .int .i64 ad, .int .i64 0, .int .i64 0, .int .i64 0, .int .i64 0, .int .i64 0, .slice none 0 0, .int .i64 0, .int .i64 0]) hg); have HMa := Lib.hid (HM2.out.alloc (.cells #[.slice A n c, .int .i64 i, .bool false, .bool false, .bool false, .bool false, .bool false, .int .i64 ad, .int .i64 0, .int .i64 0, .int .i64 0, .int .i64 0, .int .i64 0, .slice none 0 0, .int .i64 0, .int .i64 0] 61)); have HBa := Lib.hid (HB2.out.alloc HB2.out.size (.cells #[.slice A n c, .int .i64 i, .bool false, .bool false, .bool false, .bool false, .bool false, .int .i64 ad, .int .i64 0, .int .i64 0, .int .i64 0, .int .i64 0, .int .i64 0, .slice none 0 0, .int .i64 0, .int .i64 0] 61)); have HG := Lib.hid (show w.heap.size + 2 ≤ g by have h := HB2.out.size; have h2 := HM2.out.lt; rw [hg] at h2; omega)) | (go_at_call 33; refine (HPR.out _).mono ?_; rintro e w3 ⟨rfl, hb3⟩; clear u0 u1 u2 u3 x0 x1 x2 x3; have hrb := HRB.out.below hb3 HRB.out.lt; have HM4 := Lib.hid (HMa.out.below hb3 HMa.out.lt); have HB4 := Lib.hid (HBa.out.trans (hb3.mono HBa.out.size)); clear hb3; have u14 := hrb.cell 14; have u15 := hrb.cell 15; have v14 := hrb.frozen 14; have v15 := hrb.frozen 15; have HRB4 := Lib.hid hrb; clear hrb; (try dsimp only at u14 u15 v14 v15)))
    have hgw : w.heap.size ≤ g := by have := HG.out; omega
    have hRW : RdW w g A n c ⟨i, (false, false, false, false, false), ad, 0, 0, 0, 0, 0, .slice none 0 0, px, py⟩ [] (((w3.setCell ⟨g, 14, none⟩ (.int .i64 px)).setCell ⟨g, 15, none⟩ (.int .i64 py)).alloc (.cells #[.int .i64 0] 30)) := by
      refine ⟨(((HB4.out.setCell (p := ⟨g, 14, none⟩) hgw _).setCell (p := ⟨g, 15, none⟩) hgw _).alloc (by have h := HB4.out.size; simpa using h) _), ?_, World.ownsRow_nil _ _ _ _, fun p hp => by cases hp⟩
      have h1 := ((HRB4.out.set_ 14 (.int .i64 px)).set_ 15 (.int .i64 py)).alloc (.cells #[.int .i64 0] 30)
      simp only [List.setIfInBounds_toArray, List.set_cons_zero, List.set_cons_succ] at h1
      exact h1
    have hMM : Blk (((w3.setCell ⟨g, 14, none⟩ (.int .i64 px)).setCell ⟨g, 15, none⟩ (.int .i64 py)).alloc (.cells #[.int .i64 0] 30)) (w.heap.size + 1) 29 (MgC m0 (.slice none 0 0)) := ((HM4.out.far (p := ⟨g, 14, none⟩) (by have := HG.out; show w.heap.size + 1 ≠ g; omega) _).far (p := ⟨g, 15, none⟩) (by have := HG.out; show w.heap.size + 1 ≠ g; omega) _).alloc _
    have hEE : Blk (((w3.setCell ⟨g, 14, none⟩ (.int .i64 px)).setCell ⟨g, 15, none⟩ (.int .i64 py)).alloc (.cells #[.int .i64 0] 30)) w3.heap.size 30 #[.int .i64 0] := blkAt (Blk.new _ _ _) (by simp)
    generalize ((w3.setCell ⟨g, 14, none⟩ (.int .i64 px)).setCell ⟨g, 15, none⟩ (.int .i64 py)).alloc (.cells #[.int .i64 0] 30) = W5 at hRW hMM hEE ⊢
    obtain ⟨ge, hge⟩ : ∃ ge, w3.heap.size = ge := ⟨_, rfl⟩
    rw [hge] at hEE ⊢
    obtain ⟨h8, hh8⟩ : ∃ h8, w.heap.size + 1 = h8 := ⟨_, rfl⟩
    rw [hh8] at hMM ⊢
    have HH8 := Lib.hid (show w.heap.size ≤ h8 by omega)
    have HGE := Lib.hid (show w.heap.size ≤ ge by rw [← hge]; exact HB4.out.size)
    have HRW := Lib.hid hRW; have HMM := Lib.hid hMM; have HEE := Lib.hid hEE
    clear hRW hMM hEE hge hh8 HB4 HRB4 HM4 HBa HMa HRB HBL HM2 HB2 HB0 HM0 HG u14 u15 v14 v15 hg
    obtain ⟨bc, hbc⟩ : ∃ bc, W5.heap.size = bc := ⟨_, rfl⟩
    go_step3
    go_wp2_with (go_at_call 34; refine (rd_steps _ _).mono ?_; rintro e w' ⟨rfl, rfl⟩)
    have hLB : ∀ q ∈ MgL g bc h8 ge, q.2.1 ≠ 81 ∧ q.1 ≠ g := by
      have e1 : h8 ≠ g := blk_ne HMM.out HRW.out.cell (by simp)
      have e2 : ge ≠ g := blk_ne HEE.out HRW.out.cell (by simp)
      have e3 : bc ≠ g := by have := HRW.out.cell.lt; omega
      intro q hq
      simp only [MgL, List.mem_cons, List.mem_nil_iff, or_false] at hq
      rcases hq with rfl | rfl | rfl
      · exact ⟨by simp, e3⟩
      · exact ⟨by simp, e1⟩
      · exact ⟨by simp, e2⟩
    have HLB := Lib.hid hLB
    obtain ⟨s0, hs0⟩ : ∃ s0 : RdS, (⟨i, (false, false, false, false, false), ad, 0, 0, 0, 0, 0, .slice none 0 0, px, py⟩ : RdS) = s0 := ⟨_, rfl⟩
    have HS0 := Lib.hid hs0
    have HSA : Hid (s0.a = i ∧ s0.x = px ∧ s0.y = py) := Lib.hid (by rw [← hs0]; exact ⟨rfl, rfl, rfl⟩)
    have hR0 : RdW w g A n c s0 [] (W5.alloc (.cells #[.pointer (some ⟨g, 0, none⟩)] 57)) := by rw [← hs0]; exact HRW.out.mono ((Below.refl _ _).alloc (Nat.le_refl _) _)
    have hI0 : RdI w g A n c l s0 (MgL g bc h8 ge) [] 0 (W5.alloc (.cells #[.pointer (some ⟨g, 0, none⟩)] 57)) :=
      ⟨⟨s0, [], s0.v, [], rfl, hR0, rfl⟩, CellsAt.cons (blkAt (Blk.new _ _ _) hbc) (CellsAt.cons (HMM.out.alloc _) (CellsAt.cons (HEE.out.alloc _) (cellsAt_nil _)))⟩
    have HPP := Lib.hid (show partB s0.x = true ∧ partB s0.y = true by rw [HSA.out.2.1, HSA.out.2.2]; exact HPP.out)
    have HBN : Hid (∀ (ts : List Nat) (s : RdS) (v : Value) (bl : List BlkM) (xs : List BkE), (∃ us, ts = 0 :: us) → runS l ts s0 [] = ((s, bl), 0) → xs.map (·.1) = bl → (∃ u, ts ++ [u] <+: tagsS l s0) → 0 ≤ s.a ∧ s.a ≤ 8 * (l.length : Int) ∧ xs.length ≤ 100 ∧ s.x = s0.x ∧ s.y = s0.y) := Lib.hid (by
      rintro ts s v bl xs ⟨us, rfl⟩ hrun hm ⟨u, hu⟩
      have hk := (runS_first l hrun).1
      have h8 : s0.a ≤ 8 * (l.length : Int) := by
        by_cases h : s0.a ≤ 8 * (l.length : Int)
        · exact h
        · exact absurd hk (treeR_over (ns := kindN) kindC_ne (by omega)).2
      have b := runS_bnd l _ hrun (by rw [HSA.out.1]; omega) h8
      have hln := hu.length_le
      have h11 := tags_len l s0
      rw [List.length_append] at hln
      have e : xs.length = bl.length := by rw [← hm, List.length_map]
      have b3 := b.2.2.1
      rw [List.length_nil] at b3
      exact ⟨b.1, b.2.1, by omega, b.2.2.2.1, b.2.2.2.2⟩)
    have HRDS := Lib.hid (HALL.out (.slice none 0 0))
    rw [HRD.out] at HRDS
    rw [hs0] at HRDS
    obtain ⟨E, hE⟩ : ∃ E, (rdAll l s0).2 = E := ⟨_, rfl⟩
    have HEQ := Lib.hid hE
    clear hs0 hLB hR0 hE
    have HI0 := Lib.hid hI0
    clear hI0
    have HB6 : Hid (w.heap.size ≤ (W5.alloc (.cells #[.pointer (some ⟨g, 0, none⟩)] 57)).heap.size) := Lib.hid (by obtain ⟨⟨s, bl, v, xs, _, hr, _⟩, _⟩ := HI0.out; exact hr.below.size)
    generalize W5.alloc (.cells #[.pointer (some ⟨g, 0, none⟩)] 57) = W6 at HI0 HB6 ⊢
    clear HRW HMM HEE HRD HALL HPR HAH hbc
    refine (wpIn_wide (n := 5)).1 ?_
    refine wp_xF (α := SEl) (enc := fun x => #[stV g x]) (IS := SgIS w g A n c l s0 (MgL g bc h8 ge)) (I := SgI w g A n c l s0 (MgL g bc h8 ge)) (I2 := SgI2 w g A n c l s0 (MgL g bc h8 ge)) (IE := SgIE w g A n c l s0 (MgL g bc h8 ge)) (S := fun xs => tgs xs = tagsS l s0) (Sp := fun pre => tgs pre <+: tagsS l s0)
      (St := StS g A n c (stpS l s0 0).1.1.pt s0.x s0.y [(bc, 57, #[.pointer (some ⟨g, 0, none⟩)])])
      rfl (by decide) (gf := 71) (lb := #[.pointer (some ⟨bc, 0, none⟩)]) rfl trivial (enters_of Tryz.func71 (by kernel_rfl) rfl)
      (steps_seq 4 (by decide) w g bc A n c l s0 [(h8, 29, MgC m0 (.slice none 0 0)), (ge, 30, #[.int .i64 0])] hgw (fun q hq => (HLB.out q hq).2)) (fun _ => rfl)
      (fun cd _ W => MgX w g A n c (stpS l s0 0).1.1.pt s0.x s0.y bc h8 ge E cd W) (fun cd pre W h => h.st)
      (fun pre x _ W => SgI w g A n c l s0 (MgL g bc h8 ge) pre x W)
      (rdi_own HB6.out (fun _ : List SEl => []) 0) (rdi_own HB6.out tgs 5) (rdi_own HB6.out tgs 0) (fun cd => mgx_own HB6.out) (fun x k => OwnFrom.and (rdi_own HB6.out tgs x.1) (ptb_own x)) HI0.out ?round ?done ?stop
    case round =>
      apply Exists.intro
      refine And.intro ?_ ?_
      · rintro lp pre x W' hI hsp
        have HI := Lib.hid hI
        clear hI hsp
        dsimp only
        gi_wp2
        obtain ⟨g0, hg0⟩ : ∃ g0, W'.heap.size = g0 := ⟨_, rfl⟩
        exact ⟨⟨g0, rfl, HI.out⟩, KeepsFrom.refl _ _⟩
      · rintro lp pre ⟨t, b0, b1, b2⟩ k W' ⟨hI, hP⟩ hsp
        have hI : RdI w g A n c l s0 (MgL g bc h8 ge) (tgs pre) t W' := hI
        have hsp' : tgs pre ++ [t] <+: tagsS l s0 := by rw [← tgs_snoc pre (t, b0, b1, b2)]; exact hsp
        rcases tags_pre l s0 hsp' with ⟨hpre, rfl⟩ | ⟨us, hpre, hus, ht0, ht5⟩
        · skip
          have A0 : ∀ {s : RdS} {bl : List BlkM}, runS l (tgs pre) s0 [] = ((s, bl), 0) → s.a = i := fun hrun => by
            rw [hpre] at hrun
            simp only [runS, Prod.mk.injEq, and_true] at hrun
            rw [← hrun.1]
            exact HSA.out.1
          have hC : Calls Tryz.prog 72 #[.pointer (some ⟨g, 0, none⟩)] W' fun e W2 => ∃ er, e = .returned (.int .i64 er) ∧ (∀ B, KeepsFrom B W' W2) ∧ RdE w g A n c l s0 (MgL g bc h8 ge) (tgs pre) 0 er W2 := by
            refine rdi_call hI hsp' HLB.out (fun s v bl xs hrun hr hm => ?_)
            exact stp_kind2 hr hgw HA.out HN.out hsz (by rw [(ahd_keep s 0).1, A0 hrun]; omega) (by rw [(ahd_keep s 0).1, A0 hrun]; omega)
          have HC := Lib.hid hC
          have HS := Lib.hid hsp
          clear hC hI hP hsp hsp' hpre
          dsimp only [stV]
          gi_wp2_with (refine ⟨trivial, ?_⟩; gi_at_call 72; refine (callsIn_wide.2 HC.out).mono ?_; rintro e w2 ⟨er, rfl, hkf, hE⟩; have HKF := Lib.hid hkf; have HE := Lib.hid hE; have hcc := hE.cl.tail.tail.head; clear hkf hE HC; have y0 := hcc.cell 0; have y1 := hcc.frozen 0; have HEc := Lib.hid hcc; clear hcc; (try dsimp only at y0 y1); have y2 := (HEc.out.set_ 0 (.int .i64 er)).cell 0; (try dsimp only at y2))
          · exact ⟨kf_set (HKF.out _) _ _, mgx_of HGE.out HEQ.out HE.out (by rename_i h; simpa using h)⟩
          · have he : er = 0 := by rename_i h; simpa using h
            subst he
            refine ⟨kf_set (HKF.out _) _ _, trivial, ?_⟩
            show RdI w g A n c l s0 (MgL g bc h8 ge) (tgs (pre ++ [_])) 0 _
            rw [tgs_snoc]
            exact (HE.out.ok rfl).setE HGE.out HEc.out (.int .i64 0) (mgl_set HE.out.cl)
        · have hpre : ∃ us, tgs pre = 0 :: us := ⟨us, hpre⟩
          have ht : t = 1 ∨ t = 2 ∨ t = 3 ∨ t = 4 ∨ t = 5 := by omega
          clear hus ht0 ht5
          rcases ht with rfl | rfl | rfl | rfl | rfl
          · skip
            have hC : Calls Tryz.prog 73 #[.pointer (some ⟨g, 0, none⟩)] W' fun e W2 => ∃ er, e = .returned (.int .i64 er) ∧ (∀ B, KeepsFrom B W' W2) ∧ RdE w g A n c l s0 (MgL g bc h8 ge) (tgs pre) 1 er W2 := by
              refine rdi_call hI hsp' HLB.out (fun s v bl xs hrun hr hm => ?_)
              obtain ⟨B0, B1, BL, BX, BY⟩ := HBN.out (tgs pre) s v bl xs hpre hrun hm ⟨_, hsp'⟩
              have B0 : 0 ≤ ({ ahdS s 1 with v := v } : RdS).a := by show 0 ≤ (ahdS s 1).a; rw [(ahd_keep s 1).1]; exact B0
              have B1 : ({ ahdS s 1 with v := v } : RdS).a ≤ 8 * (l.length : Int) := by show (ahdS s 1).a ≤ _; rw [(ahd_keep s 1).1]; exact B1
              have BX : ({ ahdS s 1 with v := v } : RdS).x = s0.x := by show (ahdS s 1).x = _; rw [(ahd_keep s 1).2.1]; exact BX
              have BY : ({ ahdS s 1 with v := v } : RdS).y = s0.y := by show (ahdS s 1).y = _; rw [(ahd_keep s 1).2.2.1]; exact BY
              exact stp_quant hr hgw HA.out HN.out hsz B0 B1
            have HC := Lib.hid hC
            have HS := Lib.hid hsp
            clear hC hI hP hsp hsp' hpre
            dsimp only [stV]
            gi_wp2_with (refine ⟨trivial, ?_⟩; gi_at_call 73; refine (callsIn_wide.2 HC.out).mono ?_; rintro e w2 ⟨er, rfl, hkf, hE⟩; have HKF := Lib.hid hkf; have HE := Lib.hid hE; have hcc := hE.cl.tail.tail.head; clear hkf hE HC; have y0 := hcc.cell 0; have y1 := hcc.frozen 0; have HEc := Lib.hid hcc; clear hcc; (try dsimp only at y0 y1); have y2 := (HEc.out.set_ 0 (.int .i64 er)).cell 0; (try dsimp only at y2))
            · exact ⟨kf_set (HKF.out _) _ _, mgx_of HGE.out HEQ.out HE.out (by rename_i h; simpa using h)⟩
            · have he : er = 0 := by rename_i h; simpa using h
              subst he
              refine ⟨kf_set (HKF.out _) _ _, trivial, ?_⟩
              show RdI w g A n c l s0 (MgL g bc h8 ge) (tgs (pre ++ [_])) 0 _
              rw [tgs_snoc]
              exact (HE.out.ok rfl).setE HGE.out HEc.out (.int .i64 0) (mgl_set HE.out.cl)
          · skip
            have hC : Calls Tryz.prog 111 #[.pointer (some ⟨b0, 0, none⟩), .pointer (some ⟨b1, 0, none⟩), .pointer (some ⟨b2, 0, none⟩)] W' fun e W2 => ∃ er, e = .returned (.int .i64 er) ∧ (∀ B, KeepsFrom B W' W2) ∧ RdE w g A n c l s0 (MgL g bc h8 ge) (tgs pre) 2 er W2 := by
              refine rdi_call hI hsp' HLB.out (fun s v bl xs hrun hr hm => ?_)
              obtain ⟨B0, B1, BL, BX, BY⟩ := HBN.out (tgs pre) s v bl xs hpre hrun hm ⟨_, hsp'⟩
              have B0 : 0 ≤ ({ ahdS s 2 with v := v } : RdS).a := by show 0 ≤ (ahdS s 2).a; rw [(ahd_keep s 2).1]; exact B0
              have B1 : ({ ahdS s 2 with v := v } : RdS).a ≤ 8 * (l.length : Int) := by show (ahdS s 2).a ≤ _; rw [(ahd_keep s 2).1]; exact B1
              have BX : ({ ahdS s 2 with v := v } : RdS).x = s0.x := by show (ahdS s 2).x = _; rw [(ahd_keep s 2).2.1]; exact BX
              have BY : ({ ahdS s 2 with v := v } : RdS).y = s0.y := by show (ahdS s 2).y = _; rw [(ahd_keep s 2).2.2.1]; exact BY
              exact stp_partX hr hgw HA.out HN.out hsz B0 B1 (by rw [BX]; exact HPP.out.1) hP.1 (by rw [BX]; exact hP.2.1) hP.2.2
            have HC := Lib.hid hC
            have HS := Lib.hid hsp
            clear hC hI hP hsp hsp' hpre
            dsimp only [stV]
            gi_wp2_with (refine ⟨trivial, ?_⟩; gi_at_call 111; refine (callsIn_wide.2 HC.out).mono ?_; rintro e w2 ⟨er, rfl, hkf, hE⟩; have HKF := Lib.hid hkf; have HE := Lib.hid hE; have hcc := hE.cl.tail.tail.head; clear hkf hE HC; have y0 := hcc.cell 0; have y1 := hcc.frozen 0; have HEc := Lib.hid hcc; clear hcc; (try dsimp only at y0 y1); have y2 := (HEc.out.set_ 0 (.int .i64 er)).cell 0; (try dsimp only at y2))
            · exact ⟨kf_set (HKF.out _) _ _, mgx_of HGE.out HEQ.out HE.out (by rename_i h; simpa using h)⟩
            · have he : er = 0 := by rename_i h; simpa using h
              subst he
              refine ⟨kf_set (HKF.out _) _ _, trivial, ?_⟩
              show RdI w g A n c l s0 (MgL g bc h8 ge) (tgs (pre ++ [_])) 0 _
              rw [tgs_snoc]
              exact (HE.out.ok rfl).setE HGE.out HEc.out (.int .i64 0) (mgl_set HE.out.cl)
          · skip
            have hC : Calls Tryz.prog 111 #[.pointer (some ⟨b0, 0, none⟩), .pointer (some ⟨b1, 0, none⟩), .pointer (some ⟨b2, 0, none⟩)] W' fun e W2 => ∃ er, e = .returned (.int .i64 er) ∧ (∀ B, KeepsFrom B W' W2) ∧ RdE w g A n c l s0 (MgL g bc h8 ge) (tgs pre) 3 er W2 := by
              refine rdi_call hI hsp' HLB.out (fun s v bl xs hrun hr hm => ?_)
              obtain ⟨B0, B1, BL, BX, BY⟩ := HBN.out (tgs pre) s v bl xs hpre hrun hm ⟨_, hsp'⟩
              have B0 : 0 ≤ ({ ahdS s 3 with v := v } : RdS).a := by show 0 ≤ (ahdS s 3).a; rw [(ahd_keep s 3).1]; exact B0
              have B1 : ({ ahdS s 3 with v := v } : RdS).a ≤ 8 * (l.length : Int) := by show (ahdS s 3).a ≤ _; rw [(ahd_keep s 3).1]; exact B1
              have BX : ({ ahdS s 3 with v := v } : RdS).x = s0.x := by show (ahdS s 3).x = _; rw [(ahd_keep s 3).2.1]; exact BX
              have BY : ({ ahdS s 3 with v := v } : RdS).y = s0.y := by show (ahdS s 3).y = _; rw [(ahd_keep s 3).2.2.1]; exact BY
              exact stp_partY hr hgw HA.out HN.out hsz B0 B1 (by rw [BY]; exact HPP.out.2) hP.1 (by rw [BY]; exact hP.2.1) hP.2.2
            have HC := Lib.hid hC
            have HS := Lib.hid hsp
            clear hC hI hP hsp hsp' hpre
            dsimp only [stV]
            gi_wp2_with (refine ⟨trivial, ?_⟩; gi_at_call 111; refine (callsIn_wide.2 HC.out).mono ?_; rintro e w2 ⟨er, rfl, hkf, hE⟩; have HKF := Lib.hid hkf; have HE := Lib.hid hE; have hcc := hE.cl.tail.tail.head; clear hkf hE HC; have y0 := hcc.cell 0; have y1 := hcc.frozen 0; have HEc := Lib.hid hcc; clear hcc; (try dsimp only at y0 y1); have y2 := (HEc.out.set_ 0 (.int .i64 er)).cell 0; (try dsimp only at y2))
            · exact ⟨kf_set (HKF.out _) _ _, mgx_of HGE.out HEQ.out HE.out (by rename_i h; simpa using h)⟩
            · have he : er = 0 := by rename_i h; simpa using h
              subst he
              refine ⟨kf_set (HKF.out _) _ _, trivial, ?_⟩
              show RdI w g A n c l s0 (MgL g bc h8 ge) (tgs (pre ++ [_])) 0 _
              rw [tgs_snoc]
              exact (HE.out.ok rfl).setE HGE.out HEc.out (.int .i64 0) (mgl_set HE.out.cl)
          · skip
            have hC : Calls Tryz.prog 75 #[.pointer (some ⟨g, 0, none⟩)] W' fun e W2 => ∃ er, e = .returned (.int .i64 er) ∧ (∀ B, KeepsFrom B W' W2) ∧ RdE w g A n c l s0 (MgL g bc h8 ge) (tgs pre) 4 er W2 := by
              refine rdi_call hI hsp' HLB.out (fun s v bl xs hrun hr hm => ?_)
              obtain ⟨B0, B1, BL, BX, BY⟩ := HBN.out (tgs pre) s v bl xs hpre hrun hm ⟨_, hsp'⟩
              have B0 : 0 ≤ ({ ahdS s 4 with v := v } : RdS).a := by show 0 ≤ (ahdS s 4).a; rw [(ahd_keep s 4).1]; exact B0
              have B1 : ({ ahdS s 4 with v := v } : RdS).a ≤ 8 * (l.length : Int) := by show (ahdS s 4).a ≤ _; rw [(ahd_keep s 4).1]; exact B1
              have BX : ({ ahdS s 4 with v := v } : RdS).x = s0.x := by show (ahdS s 4).x = _; rw [(ahd_keep s 4).2.1]; exact BX
              have BY : ({ ahdS s 4 with v := v } : RdS).y = s0.y := by show (ahdS s 4).y = _; rw [(ahd_keep s 4).2.2.1]; exact BY
              exact stp_pattern hr hgw HA.out (HT.out) HN.out hsz B0 B1
            have HC := Lib.hid hC
            have HS := Lib.hid hsp
            clear hC hI hP hsp hsp' hpre
            dsimp only [stV]
            gi_wp2_with (refine ⟨trivial, ?_⟩; gi_at_call 75; refine (callsIn_wide.2 HC.out).mono ?_; rintro e w2 ⟨er, rfl, hkf, hE⟩; have HKF := Lib.hid hkf; have HE := Lib.hid hE; have hcc := hE.cl.tail.tail.head; clear hkf hE HC; have y0 := hcc.cell 0; have y1 := hcc.frozen 0; have HEc := Lib.hid hcc; clear hcc; (try dsimp only at y0 y1); have y2 := (HEc.out.set_ 0 (.int .i64 er)).cell 0; (try dsimp only at y2))
            · exact ⟨kf_set (HKF.out _) _ _, mgx_of HGE.out HEQ.out HE.out (by rename_i h; simpa using h)⟩
            · have he : er = 0 := by rename_i h; simpa using h
              subst he
              refine ⟨kf_set (HKF.out _) _ _, trivial, ?_⟩
              show RdI w g A n c l s0 (MgL g bc h8 ge) (tgs (pre ++ [_])) 0 _
              rw [tgs_snoc]
              exact (HE.out.ok rfl).setE HGE.out HEc.out (.int .i64 0) (mgl_set HE.out.cl)
          · skip
            have hC : Calls Tryz.prog 76 #[.pointer (some ⟨g, 0, none⟩)] W' fun e W2 => ∃ er, e = .returned (.int .i64 er) ∧ (∀ B, KeepsFrom B W' W2) ∧ RdE w g A n c l s0 (MgL g bc h8 ge) (tgs pre) 5 er W2 := by
              refine rdi_call hI hsp' HLB.out (fun s v bl xs hrun hr hm => ?_)
              obtain ⟨B0, B1, BL, BX, BY⟩ := HBN.out (tgs pre) s v bl xs hpre hrun hm ⟨_, hsp'⟩
              have B0 : 0 ≤ ({ ahdS s 5 with v := v } : RdS).a := by show 0 ≤ (ahdS s 5).a; rw [(ahd_keep s 5).1]; exact B0
              have B1 : ({ ahdS s 5 with v := v } : RdS).a ≤ 8 * (l.length : Int) := by show (ahdS s 5).a ≤ _; rw [(ahd_keep s 5).1]; exact B1
              have BX : ({ ahdS s 5 with v := v } : RdS).x = s0.x := by show (ahdS s 5).x = _; rw [(ahd_keep s 5).2.1]; exact BX
              have BY : ({ ahdS s 5 with v := v } : RdS).y = s0.y := by show (ahdS s 5).y = _; rw [(ahd_keep s 5).2.2.1]; exact BY
              exact stp_block hr hgw HA.out (HT.out) HN.out hsz B0 B1 BL
            have HC := Lib.hid hC
            have HS := Lib.hid hsp
            clear hC hI hP hsp hsp' hpre
            dsimp only [stV]
            gi_wp2_with (refine ⟨trivial, ?_⟩; gi_at_call 76; refine (callsIn_wide.2 HC.out).mono ?_; rintro e w2 ⟨er, rfl, hkf, hE⟩; have HKF := Lib.hid hkf; have HE := Lib.hid hE; have hcc := hE.cl.tail.tail.head; clear hkf hE HC; have y0 := hcc.cell 0; have y1 := hcc.frozen 0; have HEc := Lib.hid hcc; clear hcc; (try dsimp only at y0 y1); have y2 := (HEc.out.set_ 0 (.int .i64 er)).cell 0; (try dsimp only at y2))
            · exact ⟨kf_set (HKF.out _) _ _, mgx_of HGE.out HEQ.out HE.out (by rename_i h; simpa using h)⟩
            · have he : er = 0 := by rename_i h; simpa using h
              subst he
              refine ⟨kf_set (HKF.out _) _ _, trivial, ?_⟩
              show RdI w g A n c l s0 (MgL g bc h8 ge) (tgs (pre ++ [_])) 0 _
              rw [tgs_snoc]
              exact (HE.out.ok rfl).setE HGE.out HEc.out (.int .i64 0) (mgl_set HE.out.cl)
    case done =>
      rintro D xs W2 hD hS hIE hK
      obtain ⟨⟨s, bl, v, xs', hrun, hr, hm⟩, hcl⟩ := hIE
      rw [hS] at hrun
      rw [final5 l hrun] at hr
      obtain ⟨A2, c2, hv⟩ := own_slN hr.row
      dsimp only at hv
      subst hv
      have hral : rdAll l s0 = ((s, bl), 0) := (rdAll_run l s0).trans hrun
      have hrr : r = (⟨ad, s.kd, s.qu, s.mx, s.my, s.pa, bl⟩, s.a - i, 0) := by
        rcases HRDS.out with ⟨_, _, h3⟩ | ⟨_, s', bl', h2, h3⟩
        · rw [hral] at h3; exact absurd rfl h3
        · rw [hral] at h2
          obtain ⟨rfl, rfl⟩ := Prod.mk.inj h2
          exact h3
      have had : s.ad = ad := by rw [runS_ad l _ hrun, ← HS0.out]
      have hk := (runS_first l hrun).1
      have h88 : s0.a ≤ 8 * (l.length : Int) := by
        by_cases h : s0.a ≤ 8 * (l.length : Int)
        · exact h
        · exact absurd hk (treeR_over (ns := kindN) kindC_ne (by omega)).2
      have hb := runS_bnd l _ hrun (by rw [HSA.out.1]; omega) h88
      have hwr : IntKind.i64.wrap (s.a - i) = s.a - i := by have h1 := HSA.out.1; have h2 := HN.out; have h3 := hb.1; have h4 := hb.2.1; rw [IntKind.wrap_i64]; omega
      have HRR := Lib.hid hrr; have HM := Lib.hid hm; have HK := Lib.hid hK; have HD := Lib.hid hD; have HWR := Lib.hid hwr
      clear hrr hm hb hwr hk h88 hS hral hrun hK hD
      have HR2 := Lib.hid hr
      have hMr : Cons w [(h8, 29, MgC m0 (.slice none 0 0))] (mgR w.heap.size (.slice A2 xs'.length c2) xs') W2 := mg_rows hr (CellsAt.cons hcl.tail.head (cellsAt_nil _))
      have HMR := Lib.hid hMr
      have HGC := Lib.hid (show Blk W2.drew g 61 (rdC A n c { s with v := .slice A2 xs'.length c2 }) from hr.cell)
      have hmc := hMr.2.1.head
      have hec := hcl.tail.tail.head
      clear hr hMr hcl
      have y0 := hec.cell 0
      have q0 := hmc.frozen 0; have q1 := hmc.frozen 1; have q2 := hmc.frozen 2; have q3 := hmc.frozen 3; have q4 := hmc.frozen 4; have q5 := hmc.frozen 5; have q6 := hmc.frozen 6
      have r0 := hmc.cell 0; have r1 := hmc.cell 1; have r2 := hmc.cell 2; have r3 := hmc.cell 3; have r4 := hmc.cell 4; have r5 := hmc.cell 5; have r6 := hmc.cell 6
      unfold MgC m0 at r0 r1 r2 r3 r4 r5 r6
      simp at r0 r1 r2 r3 r4 r5 r6
      (try dsimp only at y0 q0 q1 q2 q3 q4 q5 q6)
      clear hec hmc
      obtain ⟨sa, pt, sad, kd, qu, mx, my, pa, sv, sx, sy⟩ := s
      dsimp only at had
      subst had
      unfold rdC at HGC
      dsimp only at HGC HRR HR2 HMR
      have HGF := Lib.hid (fun (W : World) (i : Nat) (u : Value) (h : CellsAt [(g, 61, #[.slice A n c, .int .i64 sa, .bool pt.1, .bool pt.2.1, .bool pt.2.2.1, .bool pt.2.2.2.1, .bool pt.2.2.2.2, .int .i64 sad, .int .i64 kd, .int .i64 qu, .int .i64 mx, .int .i64 my, .int .i64 pa, .slice A2 xs'.length c2, .int .i64 sx, .int .i64 sy])] W) => CellsAt.far h (p := ⟨h8, i, none⟩) (fun q hq => by rw [List.mem_singleton] at hq; subst hq; exact fun e => (HLB.out _ (by simp [MgL]; exact .inr (.inl rfl)) : _ ∧ h8 ≠ g).2 e.symm) u)
      gi_wp2_with fail
      go_wp2_with fail
      refine wp_region_treeN (fun w' => CellsAt [(g, 61, #[.slice A n c, .int .i64 sa, .bool pt.1, .bool pt.2.1, .bool pt.2.2.1, .bool pt.2.2.2.1, .bool pt.2.2.2.2, .int .i64 sad, .int .i64 kd, .int .i64 qu, .int .i64 mx, .int .i64 my, .int .i64 pa, .slice A2 xs'.length c2, .int .i64 sx, .int .i64 sy])] w') 11 (.take 0 (.take 1 (.take 2 (.take 3 (.take 4 (.take 5 (.take 6 (.take 7 (.take 8 (.take 9 (.step 10 .done))))))))))) (by kernel_rfl) (by kernel_rfl) (by simp only [Pln.out, Array.getD_eq_getD_getElem?, List.getElem?_toArray, List.getElem?_cons_zero, List.getElem?_cons_succ, Option.getD_some]; rfl) (by simp only [List.map_cons, List.map_nil]; rfl) (CellsAt.cons HGC.out (cellsAt_nil _)) (fun PE hPE => ?_)
      iterate 10
        refine tree_take (v := ?_) rfl (by rfl) ?_ ?_
        rotate_left
        · intro _ hSw; (try dsimp only at hSw); have z1 := hSw.head.cell 1; have z7 := hSw.head.cell 7; have z8 := hSw.head.cell 8; have z9 := hSw.head.cell 9; have z10 := hSw.head.cell 10; have z11 := hSw.head.cell 11; have z12 := hSw.head.cell 12; have z13 := hSw.head.cell 13; dsimp only at z1 z7 z8 z9 z10 z11 z12 z13; go_simp; (try with_reducible rfl)
        simp only [List.setIfInBounds_toArray, List.set_cons_zero, List.set_cons_succ]
      refine tree_skip _ (w' := ?_) rfl (by rfl) ?_ ?_ ?_
      rotate_left 1
      · go_simp; (first | (with_reducible rfl) | (constructor <;> with_reducible rfl) | skip)
      · exact CellsAt.drew (HGF.out _ _ _ (HGF.out _ _ _ (HGF.out _ _ _ (HGF.out _ _ _ (HGF.out _ _ _ (HGF.out _ _ _ (HGF.out _ _ _ (CellsAt.cons HGC.out (cellsAt_nil _)))))))))
      refine hPE _ _ ?_
      clear hPE PE
      simp only [List.drop_succ_cons, List.drop_zero, List.drop_nil]
      go_wp2_with fail
      refine ⟨rfl, ?_⟩
      go_wp2_with fail
      rw [Exit.noGoto_ret, HRR.out]
      obtain ⟨hK5, hc6⟩ := mg_last HMR.out HH8.out mgR_e HK.out (Nat.le_trans HB6.out HD.out) ⟨sad, kd, qu, mx, my, pa, bl⟩ (.slice A2 xs'.length c2)
      exact retM hK5 (mget_res h8 ⟨sad, kd, qu, mx, my, pa, bl⟩ (.slice A2 xs'.length c2) (sa - i) 0 _ _ hc6.2.1.head rfl (congrArg (Value.int .i64) HWR.out) rfl) (mg_post hc6 HM.out.symm)
    case stop =>
      rintro D cd pre W2 hD hsp hX hK
      obtain ⟨rfl, hne, _, hmm, hee, hbel⟩ := hX
      have hrr : r = (m0, 0, E) := by
        rcases HRDS.out with ⟨_, h2, _⟩ | ⟨h1, _⟩
        · rw [h2, HEQ.out]
        · rw [HEQ.out] at h1; exact absurd h1 hne
      have HRR := Lib.hid hrr; have HNE := Lib.hid hne; have HMM := Lib.hid hmm; have HEE := Lib.hid hee; have HBel := Lib.hid hbel; have HK := Lib.hid hK; have HD := Lib.hid hD
      have y0 := hee.cell 0
      have q0 := hmm.frozen 0; have q1 := hmm.frozen 1; have q2 := hmm.frozen 2; have q3 := hmm.frozen 3; have q4 := hmm.frozen 4; have q5 := hmm.frozen 5; have q6 := hmm.frozen 6
      have r0 := hmm.cell 0; have r1 := hmm.cell 1; have r2 := hmm.cell 2; have r3 := hmm.cell 3; have r4 := hmm.cell 4; have r5 := hmm.cell 5; have r6 := hmm.cell 6
      unfold MgC m0 at r0 r1 r2 r3 r4 r5 r6
      simp at r0 r1 r2 r3 r4 r5 r6
      (try dsimp only at y0 q0 q1 q2 q3 q4 q5 q6)
      have hne2 : (E != 0) = true := by simpa using hne
      clear hrr hmm hee hbel hK hD hsp hne
      gi_wp2_with fail
      have HEd := Lib.hid (show Blk W2.drew ge 30 #[.int .i64 E] from HEE.out)
      go_wp2_with fail
      refine wp_region_treeN (fun w' => CellsAt [(ge, 30, #[.int .i64 E])] w') 4 (.take 0 (.take 1 (.step 2 (.step 3 .done)))) (by kernel_rfl) (by kernel_rfl) (by simp only [Pln.out, Array.getD_eq_getD_getElem?, List.getElem?_toArray, List.getElem?_cons_zero, List.getElem?_cons_succ, Option.getD_some]; rfl) (by simp only [List.map_cons, List.map_nil]; rfl) (CellsAt.cons HEd.out (cellsAt_nil _)) (fun PE hPE => ?_)
      iterate 2
        refine tree_take (v := ?_) rfl (by rfl) ?_ ?_
        rotate_left
        · intro _ hSw; (try dsimp only at hSw); have z1 := hSw.head.cell 0; dsimp only at z1; go_simp; (try with_reducible rfl)
        simp only [List.setIfInBounds_toArray, List.set_cons_zero, List.set_cons_succ]
      refine tree_skip _ (w' := ?_) rfl (by rfl) ?_ ?_ ?_
      rotate_left 1
      · go_simp; (first | (with_reducible rfl) | (constructor <;> with_reducible rfl) | skip)
      · have hf : ∀ (W : World) (i : Nat) (u : Value), CellsAt [(ge, 30, #[.int .i64 E])] W → CellsAt [(ge, 30, #[.int .i64 E])] (W.setCell ⟨h8, i, none⟩ u) := fun W i u h => CellsAt.far h (p := ⟨h8, i, none⟩) (fun q hq => by rw [List.mem_singleton] at hq; subst hq; exact blk_ne HEE.out HMM.out (by simp)) u
        exact CellsAt.drew (hf _ _ _ (hf _ _ _ (hf _ _ _ (hf _ _ _ (hf _ _ _ (hf _ _ _ (hf _ _ _ (CellsAt.cons HEE.out (cellsAt_nil _)))))))))
      refine tree_value (v := ?_) (w' := ?_) rfl (by rfl) ?_ ?_ ?_
      rotate_left 2
      · go_simp; (try (constructor <;> with_reducible rfl))
      · have hf : ∀ (W : World) (i : Nat) (u : Value), CellsAt [(ge, 30, #[.int .i64 E])] W → CellsAt [(ge, 30, #[.int .i64 E])] (W.setCell ⟨h8, i, none⟩ u) := fun W i u h => CellsAt.far h (p := ⟨h8, i, none⟩) (fun q hq => by rw [List.mem_singleton] at hq; subst hq; exact blk_ne HEE.out HMM.out (by simp)) u
        exact CellsAt.drew (hf _ _ _ (hf _ _ _ (hf _ _ _ (hf _ _ _ (hf _ _ _ (hf _ _ _ (hf _ _ _ (CellsAt.cons HEE.out (cellsAt_nil _)))))))))
      simp only [List.setIfInBounds_toArray, List.set_cons_zero, List.set_cons_succ]
      refine hPE _ _ ?_
      clear hPE PE
      simp only [List.drop_succ_cons, List.drop_zero, List.drop_nil]
      go_wp2_with fail
      refine ⟨rfl, ?_⟩
      go_wp2_with fail
      rw [Exit.noGoto_ret, HRR.out]
      obtain ⟨hK5, hc6⟩ := mg_last (R := mgR w.heap.size (.slice none 0 0) []) ⟨HBel.out, CellsAt.cons HMM.out (cellsAt_nil _), RowsAt.cons (World.ownsRow_nil _ _ _ _) (rowsAt_nil _)⟩ HH8.out mgR_e HK.out (Nat.le_trans HB6.out HD.out) m0 (.slice none 0 0)
      exact retM hK5 (mget_res h8 m0 (.slice none 0 0) 0 E _ _ hc6.2.1.head rfl rfl rfl) (mg_post hc6 rfl)
end Go.Proofs.YtcojnigkgbmbmaaGreatDoor
namespace Go.Proofs.YtcojnigkgbmbmaaGreatDoor
open Go Go.RowKit
attribute [local go_sem] Oper.semAt_some
theorem own_weak {w : World} {b b' : Nat} {e : TypeId} {size n : Nat} {v : Value} {xs : List Value} (h : w.ownsRow b e size v n xs) (hb : b' ≤ b) : w.ownsRow b' e size v n xs := by
  refine ⟨h.1, ?_⟩
  rcases h.2 with h2 | ⟨g, cap, cur, h3, hbg, h4⟩
  · exact .inl h2
  · exact .inr ⟨g, cap, cur, h3, Nat.le_trans hb hbg, h4⟩
def prR (base : Nat) (p : BkE) : RowF := ⟨base, 109, 2, .slice p.2.1 p.1.l.length p.2.2, p.1.l.length, rowC pairC p.1.l⟩
theorem bkC_app (ys : List BkE) (p : BkE) : rowC bkC (ys ++ [p]) = rowC bkC ys ++ [.int .i64 p.1.dc, .slice p.2.1 p.1.l.length p.2.2] := by rw [rowC_app, rowC_one]; rfl
end Go.Proofs.YtcojnigkgbmbmaaGreatDoor
namespace Go.Proofs.YtcojnigkgbmbmaaGreatDoor
open Go Go.RowKit
attribute [local go_sem] Oper.semAt_some
def prtP (l : List UInt8) (i pr : Int) : Int × Int × Int := if (treeR vecC vecN l i).2.2 != 0 then (0, 0, (treeR vecC vecN l i).2.2) else ((turnP pr (treeR vecC vecN l i).1).1, (treeR vecC vecN l i).2.1, (turnP pr (treeR vecC vecN l i).1).2)
theorem ref19_part (A : Option Addr) (n c : Nat) (l : List UInt8) (i pr : Int) (w : World) (hA : Sl w A (l.map byteV)) (hn : l.length = n) (hsz : n ≤ 2 ^ 47) (hi : -9223372036854775808 ≤ i ∧ i ≤ 9223372036854775807) (hp : partB pr = true) :
    Calls Tryz.prog 41 #[.slice A n c, .int .i64 i, .int .i64 pr] w fun e w' => e = .returned (.tuple #[.int .i64 (prtP l i pr).1, .int .i64 (prtP l i pr).2.1, .int .i64 (prtP l i pr).2.2]) ∧ Below w.heap.size w w' := by
  have CG := Lib.hid (ref06_Get A n c l i w hA hn hsz hi)
  have HV := Lib.hid (@vec_got l i)
  obtain ⟨R, hR⟩ : ∃ R, prtP l i pr = R := ⟨_, rfl⟩
  rw [hR]
  unfold prtP at hR
  obtain ⟨⟨r1, r2, r3⟩, hr⟩ : ∃ r, treeR vecC vecN l i = r := ⟨_, rfl⟩
  rw [hr] at CG hR HV
  dsimp only at CG hR HV
  clear hA hn hsz hi hr
  cases he : (r3 != 0) with
  | true =>
    rw [if_pos he] at hR
    subst hR
    go_enter Tryz.func41, Tryz.ntmps41
    go_wp2_with fail
    refine CG.out.mono ?_
    rintro e w1 ⟨rfl, hb1⟩
    have B1 := Lib.hid hb1
    clear hb1 CG
    go_wp2_with fail
    go_ret3
    exact ⟨rfl, B1.out⟩
  | false =>
    rw [if_neg (by rw [he]; decide)] at hR
    have h0 : r3 = 0 := by simpa using he
    subst h0
    obtain ⟨hx0, h1, h2⟩ := HV.out rfl
    clear hx0
    have CT := Lib.hid (fun W => ref06_Turn pr r1 W hp h1 h2)
    obtain ⟨⟨t1, t2⟩, ht⟩ : ∃ t, turnP pr r1 = t := ⟨_, rfl⟩
    rw [ht] at CT hR
    subst hR
    clear ht h1 h2 he HV hp
    go_enter Tryz.func41, Tryz.ntmps41
    go_wp2_with fail
    refine CG.out.mono ?_
    rintro e w1 ⟨rfl, hb1⟩
    have B1 := Lib.hid hb1
    clear hb1 CG
    go_wp2_with fail
    refine (CT.out _).mono ?_
    rintro e w2 ⟨rfl, rfl⟩
    go_wp2_with fail
    go_ret3
    exact ⟨rfl, B1.out⟩
def rC (l : List UInt8) (ad kd qv vx vy p i : Int) : MacM × Int × Int :=
  if (mc l kd p).2.2 != 0 then (m0, 0, (mc l kd p).2.2) else
  if (bgets l (pI kd) (cntP (mc l kd p).1) (mc l kd p).2.1).2.2 != 0 then (m0, 0, (bgets l (pI kd) (cntP (mc l kd p).1) (mc l kd p).2.1).2.2) else
  (⟨ad, kd, qv, vx, vy, (mc l kd p).1, (bgets l (pI kd) (cntP (mc l kd p).1) (mc l kd p).2.1).1⟩, (bgets l (pI kd) (cntP (mc l kd p).1) (mc l kd p).2.1).2.1 - i, 0)
def rV (l : List UInt8) (ad kd qv x y p i : Int) : MacM × Int × Int :=
  if (mv l kd p x y).2.2 != 0 then (m0, 0, (mv l kd p x y).2.2) else rC l ad kd qv (mv l kd p x y).1.1 (mv l kd p x y).1.2 (mv l kd p x y).2.1 i
theorem mget_ref {l : List UInt8} {i ad : Int} {x : LastM} : mgetP l i ad x = if i < 0 ∨ ad < 1 ∨ 33 < ad then (m0, 0, 3) else if !aheadB x ad then (m0, 0, 2) else
    if (treeR kindC kindN l i).2.2 != 0 then (m0, 0, (treeR kindC kindN l i).2.2) else
    if (mq l (treeR kindC kindN l i).1 (i + (treeR kindC kindN l i).2.1)).2.2 != 0 then (m0, 0, (mq l (treeR kindC kindN l i).1 (i + (treeR kindC kindN l i).2.1)).2.2) else
    rV l ad (treeR kindC kindN l i).1 (mq l (treeR kindC kindN l i).1 (i + (treeR kindC kindN l i).2.1)).1 (predP ad (ad - x.ad) x.had x.x x.y).1 (predP ad (ad - x.ad) x.had x.x x.y).2 (mq l (treeR kindC kindN l i).1 (i + (treeR kindC kindN l i).2.1)).2.1 i := rfl
theorem prt_err {l : List UInt8} {p pr : Int} (h : (prtP l p pr).2.2 ≠ 0) : (vgetP l p pr).2.2 = (prtP l p pr).2.2 := by
  unfold prtP vgetP at *
  dsimp only at *
  split at h
  · rename_i h1; rw [if_pos h1, if_pos h1]
  · rename_i h1; rw [if_neg h1, if_neg h1]
theorem prt_ok {l : List UInt8} {p pr : Int} (h : (prtP l p pr).2.2 = 0) : vgetP l p pr = ((prtP l p pr).1, p + (prtP l p pr).2.1, 0) := by
  unfold prtP vgetP at *
  dsimp only at *
  split at h
  · rename_i h1; exact absurd h (by simpa using h1)
  · rename_i h1; rw [if_neg h1, if_neg h1]; dsimp only at h ⊢; rw [h]
theorem prt_bnd {l : List UInt8} {p pr : Int} (h0 : 0 ≤ p) (h1 : p ≤ 8 * (l.length : Int)) : 0 ≤ (prtP l p pr).2.1 ∧ p + (prtP l p pr).2.1 ≤ 8 * (l.length : Int) := by
  unfold prtP
  split
  · exact ⟨Int.le_refl _, by dsimp only; omega⟩
  · rename_i h
    have h2 : (treeR vecC vecN l p).2.2 = 0 := by simpa using h
    have h3 := tree_end h0 h1 h2
    have h4 := vec_got h2
    exact ⟨by dsimp only; omega, h3⟩
theorem tree_err0 {cs : List (List UInt8)} {ns : List Int} {l : List UInt8} {i : Int} (h : (treeR cs ns l i).2.2 ≠ 0) : (treeR cs ns l i).1 = 0 ∧ (treeR cs ns l i).2.1 = 0 := by
  unfold treeR getT at *
  split
  · exact ⟨rfl, rfl⟩
  · rename_i h1
    rw [if_neg h1] at h
    split at h
    · exact absurd rfl h
    · split <;> exact ⟨rfl, rfl⟩
theorem tree_far {l : List UInt8} {i : Int} (h : 8 * (l.length : Int) < i) : treeR kindC kindN l i = (0, 0, 5) := by
  unfold treeR
  rw [if_neg (by omega), show min 24 (8 * l.length - i.toNat) = 0 by omega]
  kernel_rfl
theorem cons_only0 {w W : World} {p : CellF} {L : List CellF} {R : List RowF} (h : Cons w (p :: L) R W) : Cons w [p] R W := ⟨h.1, CellsAt.cons h.2.1.head (cellsAt_nil _), h.2.2⟩
set_option maxRecDepth 100000 in
set_option maxHeartbeats 16000000 in
theorem ref19_GetE (A : Option Addr) (n c : Nat) (l : List UInt8) (i ad : Int) (x : LastM) (w : World) (hA : Sl w A (l.map byteV)) (hn : l.length = n) (hsz : n ≤ 2 ^ 47) (hi : -9223372036854775808 ≤ i ∧ i ≤ 9223372036854775807) (hbad : ¬ (0 ≤ i ∧ 1 ≤ ad ∧ ad ≤ 33 ∧ aheadB x ad = true ∧ i ≤ 8 * (n : Int) ∧ (treeR kindC kindN l i).2.2 = 0)) :
    Calls Tryz.prog 12 #[.slice A n c, .int .i64 i, .int .i64 ad, lastV x] w (MGPost w (mgetP l i ad x)) := by
  have CA := Lib.hid (fun W => ref19_Ahead x ad W)
  obtain ⟨R, hR⟩ : ∃ R, mgetP l i ad x = R := ⟨_, rfl⟩
  rw [hR]
  rw [mget_ref] at hR
  have HA := Lib.hid hA; have HN := Lib.hid hn; have HSZ := Lib.hid hsz; have HI := Lib.hid hi
  have HBAD := Lib.hid hbad
  obtain ⟨ah, hah⟩ : ∃ b, aheadB x ad = b := ⟨_, rfl⟩
  rw [hah] at hR CA
  have HAH := Lib.hid hah
  unfold lastV
  obtain ⟨la, lh, lx, ly⟩ := x
  dsimp only at CA hR ⊢
  have hc0 : Cons w [(w.heap.size + 1, 29, MgC m0 (.slice none 0 0)), (w.heap.size, 24, #[.int .i64 la, .bool lh, .int .i64 lx, .int .i64 ly])] [] ((w.alloc (.cells #[.int .i64 la, .bool lh, .int .i64 lx, .int .i64 ly] 24)).alloc (.cells (MgC m0 (.slice none 0 0)) 29)) :=
    ⟨((Below.refl _ w).alloc (Nat.le_refl _) _).alloc (by simp) _, CellsAt.cons (blkAt (Blk.new _ _ _) (by simp)) (CellsAt.cons ((Blk.new w _ _).alloc _) (cellsAt_nil _)), rowsAt_nil _⟩
  have HC0 := Lib.hid hc0
  clear hA hn hsz hi hah hc0 hbad
  by_cases g1 : i < 0
  · have d1 : decide (i < 0) = true := decide_eq_true g1
    rw [if_pos (.inl g1)] at hR
    subst hR
    clear g1
    go_enter Tryz.func12, Tryz.ntmps12
    go_wp2_with fail
    refine bodyPost_ret (by simp [results, Tryz.results12, go_sem]; try rfl) rfl ?_
    exact mg_fail 3 HC0.out.1
  have d1 : decide (i < 0) = false := decide_eq_false g1
  by_cases g2 : ad < 1
  · have d2 : decide (ad < 1) = true := decide_eq_true g2
    rw [if_pos (.inr (.inl g2))] at hR
    subst hR
    clear g1 g2
    go_enter Tryz.func12, Tryz.ntmps12
    go_wp2_with fail
    refine bodyPost_ret (by simp [results, Tryz.results12, go_sem]; try rfl) rfl ?_
    exact mg_fail 3 HC0.out.1
  have d2 : decide (ad < 1) = false := decide_eq_false g2
  by_cases g3 : 33 < ad
  · have d3 : decide (33 < ad) = true := decide_eq_true g3
    rw [if_pos (.inr (.inr g3))] at hR
    subst hR
    clear g1 g2 g3
    go_enter Tryz.func12, Tryz.ntmps12
    go_wp2_with fail
    refine bodyPost_ret (by simp [results, Tryz.results12, go_sem]; try rfl) rfl ?_
    exact mg_fail 3 HC0.out.1
  have d3 : decide (33 < ad) = false := decide_eq_false g3
  rw [if_neg (by omega)] at hR
  have HG1 := Lib.hid (show 0 ≤ i ∧ 1 ≤ ad ∧ ad ≤ 33 by omega)
  clear g1 g2 g3
  cases ah with
  | false =>
    simp only [Bool.not_false, if_true] at hR
    subst hR
    go_enter Tryz.func12, Tryz.ntmps12
    go_wp2_with fail
    refine (CA.out _).mono ?_
    rintro e w1 ⟨rfl, hb1⟩
    have hc1 := cons_below HC0.out hb1
    have HC1 := Lib.hid hc1
    have xz := hc1.2.1.head; have z0 := xz.cell 0; have z1 := xz.cell 1; have z2 := xz.cell 2; have z3 := xz.cell 3; have z4 := xz.cell 4; have z5 := xz.cell 5; have z6 := xz.cell 6; have f0 := xz.frozen 0; have f1 := xz.frozen 1; have f2 := xz.frozen 2; have f3 := xz.frozen 3; have f4 := xz.frozen 4; have f5 := xz.frozen 5; have f6 := xz.frozen 6; (try unfold MgC m0 at z0 z1 z2 z3 z4 z5 z6); (try simp at z0 z1 z2 z3 z4 z5 z6); (try dsimp only at f0 f1 f2 f3 f4 f5 f6); clear xz
    clear hb1 hc1
    go_wp2_with fail
    have h5 := mg_cons (cons_only0 HC1.out) (Nat.le_succ _) (by simp) m0 (.slice none 0 0)
    have k5 := h5.2.1.head
    unfold MgC m0 at k5
    have s0 := k5.cell 0; have s1 := k5.cell 1; have s2 := k5.cell 2; have s3 := k5.cell 3; have s4 := k5.cell 4; have s5 := k5.cell 5; have s6 := k5.cell 6
    simp at s0 s1 s2 s3 s4 s5 s6
    refine bodyPost_ret (by simp [results, Tryz.results12, go_sem, s0, s1, s2, s3, s4, s5, s6]; try rfl) rfl ?_
    exact mg_fail 2 h5.1
  | true =>
  simp only [Bool.not_true, Bool.false_eq_true, if_false] at hR
  have CK := Lib.hid (fun W => ref01_Count A n c W HSZ.out)
  by_cases g4 : 8 * (n : Int) < i
  · have d4 : decide (8 * (n : Int) < i) = true := decide_eq_true g4
    rw [tree_far (by rw [HN.out]; exact g4), if_pos (by decide)] at hR
    subst hR
    clear g4
    go_enter Tryz.func12, Tryz.ntmps12
    go_wp2_with fail
    refine (CA.out _).mono ?_
    rintro e w1 ⟨rfl, hb1⟩
    have hc1 := cons_below HC0.out hb1
    have HC1 := Lib.hid hc1
    have xz := hc1.2.1.head; have z0 := xz.cell 0; have z1 := xz.cell 1; have z2 := xz.cell 2; have z3 := xz.cell 3; have z4 := xz.cell 4; have z5 := xz.cell 5; have z6 := xz.cell 6; have f0 := xz.frozen 0; have f1 := xz.frozen 1; have f2 := xz.frozen 2; have f3 := xz.frozen 3; have f4 := xz.frozen 4; have f5 := xz.frozen 5; have f6 := xz.frozen 6; (try unfold MgC m0 at z0 z1 z2 z3 z4 z5 z6); (try simp at z0 z1 z2 z3 z4 z5 z6); (try dsimp only at f0 f1 f2 f3 f4 f5 f6); clear xz
    clear hb1 hc1
    go_wp2_with (go_at_call 36; refine (CK.out _).mono ?_; rintro e w' ⟨rfl, rfl⟩)
    have h5 := mg_cons (cons_only0 HC1.out) (Nat.le_succ _) (by simp) m0 (.slice none 0 0)
    have k5 := h5.2.1.head
    unfold MgC m0 at k5
    have s0 := k5.cell 0; have s1 := k5.cell 1; have s2 := k5.cell 2; have s3 := k5.cell 3; have s4 := k5.cell 4; have s5 := k5.cell 5; have s6 := k5.cell 6
    simp at s0 s1 s2 s3 s4 s5 s6
    refine bodyPost_ret (by simp [results, Tryz.results12, go_sem, s0, s1, s2, s3, s4, s5, s6]; try rfl) rfl ?_
    exact mg_fail 5 h5.1
  have d4 : decide (8 * (n : Int) < i) = false := decide_eq_false g4
  have HG4 := Lib.hid (show i ≤ 8 * (n : Int) by omega)
  clear g4
  have CG := Lib.hid (fun W hW => ref05_Get A n c l i W hW HN.out HSZ.out HI.out)
  have HKG := Lib.hid (@kind_got l i)
  have HKE := Lib.hid (@tree_end kindC kindN l i (by have := HG1.out; omega) (by have := HG4.out; have := HN.out; omega))
  obtain ⟨⟨kd, kb, ke⟩, hk⟩ : ∃ k, treeR kindC kindN l i = k := ⟨_, rfl⟩
  have HKE0 := Lib.hid hk
  rw [hk] at hR CG HKG HKE
  dsimp only at hR CG HKG HKE
  clear hk
  cases hke : (ke != 0) with
  | true =>
    rw [if_pos hke] at hR
    subst hR
    go_enter Tryz.func12, Tryz.ntmps12
    go_wp2_with fail
    refine (CA.out _).mono ?_
    rintro e w1 ⟨rfl, hb1⟩
    have HC1 := Lib.hid (cons_below HC0.out hb1)
    clear hb1
    go_wp2_with (go_at_call 36; refine (CK.out _).mono ?_; rintro e w' ⟨rfl, rfl⟩)
    refine (CG.out _ (HA.out.below HC1.out.1)).mono ?_
    rintro e w2 ⟨rfl, hb2⟩
    have hc2 := cons_below HC1.out hb2
    have HC2 := Lib.hid hc2
    have xz := hc2.2.1.head; have z0 := xz.cell 0; have z1 := xz.cell 1; have z2 := xz.cell 2; have z3 := xz.cell 3; have z4 := xz.cell 4; have z5 := xz.cell 5; have z6 := xz.cell 6; have f0 := xz.frozen 0; have f1 := xz.frozen 1; have f2 := xz.frozen 2; have f3 := xz.frozen 3; have f4 := xz.frozen 4; have f5 := xz.frozen 5; have f6 := xz.frozen 6; (try unfold MgC m0 at z0 z1 z2 z3 z4 z5 z6); (try simp at z0 z1 z2 z3 z4 z5 z6); (try dsimp only at f0 f1 f2 f3 f4 f5 f6); clear xz
    clear hb2 hc2
    go_wp2_with fail
    have h5 := mg_cons (cons_only0 HC2.out) (Nat.le_succ _) (by simp) m0 (.slice none 0 0)
    have k5 := h5.2.1.head
    unfold MgC m0 at k5
    have s0 := k5.cell 0; have s1 := k5.cell 1; have s2 := k5.cell 2; have s3 := k5.cell 3; have s4 := k5.cell 4; have s5 := k5.cell 5; have s6 := k5.cell 6
    simp at s0 s1 s2 s3 s4 s5 s6
    refine bodyPost_ret (by simp [results, Tryz.results12, go_sem, s0, s1, s2, s3, s4, s5, s6]; try rfl) rfl ?_
    exact mg_fail ke h5.1
  | false =>
    exfalso
    have h0 : ke = 0 := by simpa using hke
    exact HBAD.out ⟨by have := HG1.out; omega, by have := HG1.out; omega, by have := HG1.out; omega, HAH.out, HG4.out, by rw [HKE0.out]; exact h0⟩
end Go.Proofs.YtcojnigkgbmbmaaGreatDoor
namespace Go.Proofs.YtcojnigkgbmbmaaGreatDoor
open Go Go.RowKit
attribute [local go_sem] Oper.semAt_some
def reg1 : Code → Nat
  | .region n _ _ => n
  | .seq a _ => reg1 a
  | .block _ c => reg1 c
  | .scope c => reg1 c
  | _ => 0
def sufx (n : Nat) : Code → Option Code
  | .seq a b => if reg1 a == n then some (.seq a b) else sufx n b
  | _ => none
set_option maxRecDepth 100000 in
set_option maxHeartbeats 16000000 in
theorem g19_rest (A : Option Addr) (n c : Nat) (l : List UInt8) (i ad la lx ly kd qv vx vy pa p4 E3 : Int) (lh bI bQ bV bF bC : Bool) (R : MacM × Int × Int) (w w3 wc : World) (HA : Hid (Sl w A (l.map byteV))) (HN : Hid (l.length = n)) (HSZ : Hid (n ≤ 2 ^ 47)) (HG1 : Hid (0 ≤ i ∧ 1 ≤ ad ∧ ad ≤ 33)) (HG4 : Hid (i ≤ 8 * (n : Int))) (HG3 : Hid (w.heap.size + 2 ≤ w3.heap.size)) (hR2 : (E3 ≠ 0 → R = (m0, 0, E3)) ∧ (E3 = 0 → (if (bgets l bI (cntP pa) p4).2.2 != 0 then (m0, 0, (bgets l bI (cntP pa) p4).2.2) else ((⟨ad, kd, qv, vx, vy, pa, (bgets l bI (cntP pa) p4).1⟩ : MacM), (bgets l bI (cntP pa) p4).2.1 - i, (0 : Int))) = R ∧ 0 ≤ p4 ∧ p4 ≤ 8 * (n : Int))) (hp4 : 0 ≤ p4) (hp45 : p4 ≤ 8 * (n : Int) + 5) (HC8 : Hid (Cons w [(w3.heap.size + 1, 29, #[.int .i64 ad, .int .i64 kd, .int .i64 qv, .int .i64 vx, .int .i64 vy, .int .i64 pa, .slice none 0 0]), (w.heap.size + 1, 29, MgC m0 (.slice none 0 0)), (w.heap.size, 24, #[.int .i64 la, .bool lh, .int .i64 lx, .int .i64 ly]), (w3.heap.size, 59, #[.bool bI, .bool bQ, .bool bV, .bool bF, .bool bC])] [] wc)) (u12 u18 u19 u24 u25 u26 u27 u28 u29 u30 u31 u32 u33 u34 u35 u36 u37 u38 u39 u40 u41 u42 u43 u44 u45 u46 u47 u48 u49 u50 u51 u52 u53 u54 u55 u56 u57 u58 u59 u60 u61 u62 u63 u64 u65 u66 u67 u68 u69 u70 u71 u72 u73 u74 u75 u76 u77 u78 u79 u80 u81 u82 u83 u84 u85 u86 u87 u88 u89 u90 u91 u92 u93 u94 u95 u96 u97 u98 u99 u100 u101 u102 u103 u104 u105 u106 u107 u108 u109 u110 u111 u112 u113 u114 u115 u116 u117 u118 u119 u120 u121 u122 u123 u124 u125 u126 u127 u128 u129 u130 u131 u132 u133 u134 u135 u136 u137 u138 u139 u140 u141 u142 u143 u144 u145 u146 u147 u148 u149 u150 u151 u152 u153 u154 u155 u156 u157 u158 u159 u160 u161 u162 u163 u164 u165 u166 u167 u168 u169 u170 u171 u172 u173 u174 u175 u176 u177 u178 u179 u180 u181 u182 u183 u184 u185 u186 u187 u188 u189 u190 : Value) (code : Code) (hc : (((Tryz.f12.body).bind (sufx 30)).getD .skip) = code) :
    Code.wp Tryz.prog code (bodyPost Tryz.prog Tryz.f12 (MGPost w R)) ⟨#[.slice A n c, .int .i64 p4, .int .i64 ad, .agg #[.int .i64 la, .bool lh, .int .i64 lx, .int .i64 ly], undef, undef, undef, .pointer (some ⟨w.heap.size, 0, none⟩), .pointer (some ⟨w.heap.size + 1, 0, none⟩), .int .i64 0, .int .i64 0, .int .i64 kd, u12, .int .i64 E3, .pointer (some ⟨w3.heap.size, 0, none⟩), .int .i64 0, .pointer (some ⟨w3.heap.size + 1, 0, none⟩), .int .i64 i, u18, u19, undef, undef, undef, undef, u24, u25, u26, u27, u28, u29, u30, u31, u32, u33, u34, u35, u36, u37, u38, u39, u40, u41, u42, u43, u44, u45, u46, u47, u48, u49, u50, u51, u52, u53, u54, u55, u56, u57, u58, u59, u60, u61, u62, u63, u64, u65, u66, u67, u68, u69, u70, u71, u72, u73, u74, u75, u76, u77, u78, u79, u80, u81, u82, u83, u84, u85, u86, u87, u88, u89, u90, u91, u92, u93, u94, u95, u96, u97, u98, u99, u100, u101, u102, u103, u104, u105, u106, u107, u108, u109, u110, u111, u112, u113, u114, u115, u116, u117, u118, u119, u120, u121, u122, u123, u124, u125, u126, u127, u128, u129, u130, u131, u132, u133, u134, u135, u136, u137, u138, u139, u140, u141, u142, u143, u144, u145, u146, u147, u148, u149, u150, u151, u152, u153, u154, u155, u156, u157, u158, u159, u160, u161, u162, u163, u164, u165, u166, u167, u168, u169, u170, u171, u172, u173, u174, u175, u176, u177, u178, u179, u180, u181, u182, u183, u184, u185, u186, u187, u188, u189, u190], []⟩ wc := by
  have HR2 := Lib.hid hR2
  subst hc
  have CC7 := Lib.hid (fun W => ref07_Count pa W)
  have hN6 : cntP pa ≤ 6 := by rw [← hasC_cnt]; exact hasC_le pa 6
  obtain ⟨N, hN⟩ : ∃ N, cntP pa = N := ⟨_, rfl⟩
  rw [hN] at HR2 CC7 hN6
  have m5 := HC8.out.2.1.head.cell 5
  (try dsimp only at m5)
  clear hR2 hN
  conv => arg 2; whnf
  go_wp2_with (go_at_call 43; refine (CC7.out _).mono ?_; rintro e w' ⟨rfl, rfl⟩)
  have HCs : Hid (Cons w [(w3.heap.size + 1, 29, #[.int .i64 ad, .int .i64 kd, .int .i64 qv, .int .i64 vx, .int .i64 vy, .int .i64 pa, .slice none 0 0]), (w.heap.size + 1, 29, MgC m0 (.slice none 0 0)), (w.heap.size, 24, #[.int .i64 la, .bool lh, .int .i64 lx, .int .i64 ly]), (w3.heap.size, 59, #[.bool bI, .bool bQ, .bool bV, .bool bF, .bool bC])] (mgR w.heap.size (.slice none 0 0) []) wc) := Lib.hid ⟨HC8.out.1, HC8.out.2.1, RowsAt.cons (World.ownsRow_nil _ _ _ _) (rowsAt_nil _)⟩
  have HPP4 := Lib.hid (show 0 ≤ p4 ∧ p4 ≤ 8 * (n : Int) + 5 from ⟨hp4, hp45⟩)
  clear HC8 m5 hp4 hp45 CC7
  go_loopg [1, 13, 20] N (fun g t1 t13 t20 => fun wr => ∃ (p e : Int) (v : Value) (ys : List BkE), t1 = .int .i64 p ∧ t13 = .int .i64 e ∧ t20 = .int .i64 (g : Int) ∧ ys.length + g ≤ 6 ∧ 0 ≤ p ∧ p ≤ 8 * (n : Int) + 5 ∧ Hid ((e ≠ 0 → R = (m0, 0, e)) ∧ (e = 0 → (if (bgets l bI g p).2.2 != 0 then (m0, 0, (bgets l bI g p).2.2) else ((⟨ad, kd, qv, vx, vy, pa, ys.map (·.1) ++ (bgets l bI g p).1⟩ : MacM), (bgets l bI g p).2.1 - i, (0 : Int))) = R ∧ p ≤ 8 * (n : Int))) ∧ Hid (Cons w [(w3.heap.size + 1, 29, #[.int .i64 ad, .int .i64 kd, .int .i64 qv, .int .i64 vx, .int .i64 vy, .int .i64 pa, v]), (w.heap.size + 1, 29, MgC m0 (.slice none 0 0)), (w.heap.size, 24, #[.int .i64 la, .bool lh, .int .i64 lx, .int .i64 ly]), (w3.heap.size, 59, #[.bool bI, .bool bQ, .bool bV, .bool bF, .bool bC])] (mgR w.heap.size v ys) wr))
  case atStart => exact ⟨p4, E3, .slice none 0 0, [], rfl, rfl, rfl, by simp; omega, HPP4.out.1, HPP4.out.2, Lib.hid ⟨HR2.out.1, fun h => ⟨by simpa using (HR2.out.2 h).1, (HR2.out.2 h).2.2⟩⟩, HCs⟩
  case round =>
    obtain ⟨p, e, v, ys, rfl, rfl, rfl, hyg, hp, hp5, HRR, HC⟩ := hrel
    obtain ⟨A1, c1, hv⟩ := own_slN HC.out.2.2.head
    dsimp only at hv
    subst hv
    have xz := HC.out.2.1.tail.head
    have z0 := xz.cell 0; have z1 := xz.cell 1; have z2 := xz.cell 2; have z3 := xz.cell 3; have z4 := xz.cell 4; have z5 := xz.cell 5; have z6 := xz.cell 6; have f0 := xz.frozen 0; have f1 := xz.frozen 1; have f2 := xz.frozen 2; have f3 := xz.frozen 3; have f4 := xz.frozen 4; have f5 := xz.frozen 5; have f6 := xz.frozen 6
    (try unfold MgC m0 at z0 z1 z2 z3 z4 z5 z6)
    (try simp at z0 z1 z2 z3 z4 z5 z6)
    (try dsimp only at f0 f1 f2 f3 f4 f5 f6)
    have xm := HC.out.2.1.head
    have n0 := xm.cell 0; have n1 := xm.cell 1; have n2 := xm.cell 2; have n3 := xm.cell 3; have n4 := xm.cell 4; have n5 := xm.cell 5; have n6 := xm.cell 6
    (try dsimp only at n0 n1 n2 n3 n4 n5 n6)
    have b0 := HC.out.2.1.tail.tail.tail.head.cell 0
    (try dsimp only at b0)
    clear xz xm
    obtain ⟨gz, hgz⟩ : ∃ z : Int, (gk : Int) = z := ⟨_, rfl⟩
    (try rw [hgz])
    by_cases he : e = 0
    · subst he
      obtain ⟨hrr, hp8⟩ := HRR.out.2 rfl
      cases gk with
      | zero =>
        have hgz0 : gz = 0 := by omega
        clear hgz
        subst hgz0
        unfold bgets at hrr
        rw [if_neg (by simp), List.append_nil] at hrr
        have hws : IntKind.i64.wrap (p - i) = p - i := by have := HG1.out; have := HG4.out; have := HSZ.out; rw [IntKind.wrap_i64]; omega
        have HRE := Lib.hid hrr
        clear hrr
        repeat (first | go_values | go_skip | go_guarded | go_step | go_upon)
        have h5 := mg_cons (m := m0) (v := .slice none 0 0) ⟨HC.out.1, CellsAt.cons HC.out.2.1.tail.head (cellsAt_nil _), HC.out.2.2⟩ (Nat.le_succ _) mgR_e ⟨ad, kd, qv, vx, vy, pa, ys.map (·.1)⟩ (.slice A1 ys.length c1)
        have k5 := h5.2.1.head
        unfold MgC at k5
        have s0 := k5.cell 0; have s1 := k5.cell 1; have s2 := k5.cell 2; have s3 := k5.cell 3; have s4 := k5.cell 4; have s5 := k5.cell 5; have s6 := k5.cell 6
        simp at s0 s1 s2 s3 s4 s5 s6
        refine bodyPost_ret (by simp [results, Tryz.results12, go_sem, s0, s1, s2, s3, s4, s5, s6]; try rfl) rfl ?_
        rw [← HRE.out]
        exact mg_post h5 rfl
      | succ g =>
        rw [show bgets l bI (g + 1) p = (if (bgetP l p bI).2.2 != 0 then ([], 0, (bgetP l p bI).2.2) else ((bgetP l p bI).1 :: (bgets l bI g (p + (bgetP l p bI).2.1)).1, (bgets l bI g (p + (bgetP l p bI).2.1)).2.1, (bgets l bI g (p + (bgetP l p bI).2.1)).2.2)) from rfl] at hrr
        have CB := Lib.hid (ref12_Get A n c l p bI wr (HA.out.below HC.out.1) HN.out HSZ.out (by have := HSZ.out; omega))
        have hbo := @bget_ok l p bI hp (by have := HN.out; omega)
        obtain ⟨⟨⟨dc, L⟩, sz, be⟩, hb⟩ : ∃ r, bgetP l p bI = r := ⟨_, rfl⟩
        rw [hb] at hrr CB hbo
        dsimp only at hrr hbo
        rw [HN.out] at hbo
        have hnx : (be ≠ 0 → R = (m0, 0, be)) ∧ (be = 0 → (if (bgets l bI g (p + sz)).2.2 != 0 then (m0, 0, (bgets l bI g (p + sz)).2.2) else ((⟨ad, kd, qv, vx, vy, pa, (ys.map (·.1) ++ [⟨dc, L⟩]) ++ (bgets l bI g (p + sz)).1⟩ : MacM), (bgets l bI g (p + sz)).2.1 - i, (0 : Int))) = R ∧ p + sz ≤ 8 * (n : Int)) := by
          refine ⟨fun h => ?_, fun h => ⟨?_, hbo.2⟩⟩
          · have hi : (be != 0) = true := by simpa using h
            simp only [hi, if_true] at hrr
            exact hrr.symm
          · subst h
            simp only [bne_self_eq_false, Bool.false_eq_true, if_false] at hrr
            rw [List.append_assoc]
            exact hrr
        have HNX := Lib.hid hnx; have HBO := Lib.hid hbo
        have hwp : IntKind.i64.wrap (p + sz) = p + sz := by have := HSZ.out; rw [IntKind.wrap_i64]; omega
        have hwg : IntKind.i64.wrap (gz - 1) = (g : Int) := by rw [IntKind.wrap_i64]; omega
        have hgt : (0 : Int) < gz := by omega
        clear hgz
        obtain ⟨k, hk⟩ : ∃ k, ys.length = k := ⟨_, rfl⟩
        have hk6 : k ≤ 6 := by omega
        have HK := Lib.hid hk; have HYG := Lib.hid hyg
        rw [hk] at n6
        (try rw [hk])
        clear hrr hnx hbo hb hk hyg z0 z1 z2 z3 z4 z5 z6 f0 f1 f2 f3 f4 f5 f6 n0 n1 n2 n3 n4 n5 HRR hp8
        go_wp2_with fail
        refine CB.out.mono ?_
        rintro e w6 ⟨v6, rfl, hb6, hr6⟩
        obtain ⟨A3, c3, hv6⟩ := own_slN hr6
        subst hv6
        dsimp only at hr6 ⊢
        have hc6 := cons_alloc (cons_below HC.out hb6) (.cells #[.int .i64 dc, .slice A3 L.length c3] 81)
        have hr7 := (own_weak hr6 HC.out.1.size).alloc (.cells #[.int .i64 dc, .slice A3 L.length c3] 81)
        have hc7 : Cons w [(w3.heap.size + 1, 29, #[.int .i64 ad, .int .i64 kd, .int .i64 qv, .int .i64 vx, .int .i64 vy, .int .i64 pa, .slice A1 k c1]), (w.heap.size + 1, 29, MgC m0 (.slice none 0 0)), (w.heap.size, 24, #[.int .i64 la, .bool lh, .int .i64 lx, .int .i64 ly]), (w3.heap.size, 59, #[.bool bI, .bool bQ, .bool bV, .bool bF, .bool bC])] (⟨w.heap.size, 81, 2, .slice A1 k c1, k, rowC bkC ys⟩ :: prR w.heap.size (⟨dc, L⟩, A3, c3) :: ys.map (prR w.heap.size)) (w6.alloc (.cells #[.int .i64 dc, .slice A3 L.length c3] 81)) := by
          rw [← HK.out]
          refine ⟨hc6.1, hc6.2.1, fun r hr => ?_⟩
          rcases List.mem_cons.1 hr with rfl | hr
          · exact hc6.2.2.head
          · rcases List.mem_cons.1 hr with rfl | hr
            · exact hr7
            · exact hc6.2.2 r (List.mem_cons_of_mem _ hr)
        have HRE : Hid (∀ r ∈ prR w.heap.size (⟨dc, L⟩, A3, c3) :: ys.map (prR w.heap.size), r.e ≠ 81) := Lib.hid (fun r hr => by
          have : r.e = 109 := by
            rcases List.mem_cons.1 hr with rfl | hr
            · rfl
            · obtain ⟨p, _, rfl⟩ := List.mem_map.1 hr
              rfl
          rw [this]
          decide)
        have x6 := hc7.2.1.head.cell 6
        have bb0 := hc7.2.1.tail.tail.tail.head.cell 0
        (try dsimp only at x6 bb0)
        have HC7 := Lib.hid hc7
        clear hb6 hr6 hc6 hr7 hc7 n6 b0 CB
        go_wp2_with (at_builtin; refine wpList_appC etBlock rfl rfl 1 [.int .i64 dc, .slice A3 L.length c3] rfl HC7.out (by rw [World.size_alloc]; rfl) rfl (by intro u hu; simp at hu; rcases hu with rfl | rfl <;> rfl) (by omega) ⟨Nat.le_refl _, HC7.out.1.size⟩ (by simp) HRE.out ?_; intro v' W5 hc5; obtain ⟨A5, c5, hv5⟩ := own_slN hc5.2.2.head; dsimp only at hv5; subst hv5; have k6 := hc5.2.1.head.cell 6; have kf6 := hc5.2.1.head.frozen 6; (try dsimp only at k6 kf6); have HC5 := Lib.hid hc5; clear hc5)
        go_roundg g
        case measure => omega
        case rel =>
          refine ⟨p + sz, be, .slice A5 (k + 1) c5, ys ++ [(⟨dc, L⟩, A3, c3)], rfl, rfl, rfl, by rw [List.length_append]; have := HYG.out; have := HK.out; simp; omega, by have := HBO.out; omega, by have := HBO.out; omega, Lib.hid ⟨HNX.out.1, fun h => by have := HNX.out.2 h; rw [List.map_append]; exact this⟩, Lib.hid ?_⟩
          have h := cons_set HC5.out (by have := HG3.out; omega) 6 (.slice A5 (k + 1) c5) (by simp; have := HG3.out; omega) (by intro r hr; rcases List.mem_cons.1 hr with rfl | hr; (show (81 : Nat) ≠ 29; decide); rw [show r.e = 109 from by rcases List.mem_cons.1 hr with rfl | hr; rfl; obtain ⟨p, _, rfl⟩ := List.mem_map.1 hr; rfl]; decide)
          refine ⟨h.1, h.2.1, fun r hr => ?_⟩
          unfold mgR at hr
          rcases List.mem_cons.1 hr with rfl | hr
          · have := h.2.2.head
            dsimp only at this ⊢
            rw [bkC_app, List.length_append, HK.out]
            exact this
          · rw [List.map_append] at hr
            rcases List.mem_append.1 hr with hr | hr
            · exact h.2.2 r (List.mem_cons_of_mem _ (List.mem_cons_of_mem _ hr))
            · rw [List.map_cons, List.map_nil, List.mem_singleton] at hr
              subst hr
              exact h.2.2 _ (List.mem_cons_of_mem _ (List.mem_cons_self ..))
    · have hE := HRR.out.1 he
      clear HRR
      subst hE
      have e0 : (e == 0) = false := by simpa using he
      have e1 : (e != 0) = true := by simpa using he
      clear he
      cases gk with
      | zero =>
        have hgz0 : gz = 0 := by omega
        clear hgz
        subst hgz0
        repeat (first | go_values | go_skip | go_guarded | go_step | go_upon)
        have h5 := mg_cons (m := m0) (v := .slice none 0 0) ⟨HC.out.1, CellsAt.cons HC.out.2.1.tail.head (cellsAt_nil _), HC.out.2.2⟩ (Nat.le_succ _) mgR_e m0 (.slice none 0 0)
        have k5 := h5.2.1.head
        unfold MgC m0 at k5
        have s0 := k5.cell 0; have s1 := k5.cell 1; have s2 := k5.cell 2; have s3 := k5.cell 3; have s4 := k5.cell 4; have s5 := k5.cell 5; have s6 := k5.cell 6
        simp at s0 s1 s2 s3 s4 s5 s6
        refine bodyPost_ret (by simp [results, Tryz.results12, go_sem, s0, s1, s2, s3, s4, s5, s6]; try rfl) rfl ?_
        exact mg_fail e h5.1
      | succ g =>
        have hgt : (0 : Int) < gz := by omega
        clear hgz
        repeat (first | go_values | go_skip | go_guarded | go_step | go_upon)
        have h5 := mg_cons (m := m0) (v := .slice none 0 0) ⟨HC.out.1, CellsAt.cons HC.out.2.1.tail.head (cellsAt_nil _), HC.out.2.2⟩ (Nat.le_succ _) mgR_e m0 (.slice none 0 0)
        have k5 := h5.2.1.head
        unfold MgC m0 at k5
        have s0 := k5.cell 0; have s1 := k5.cell 1; have s2 := k5.cell 2; have s3 := k5.cell 3; have s4 := k5.cell 4; have s5 := k5.cell 5; have s6 := k5.cell 6
        simp at s0 s1 s2 s3 s4 s5 s6
        refine bodyPost_ret (by simp [results, Tryz.results12, go_sem, s0, s1, s2, s3, s4, s5, s6]; try rfl) rfl ?_
        exact mg_fail e h5.1
end Go.Proofs.YtcojnigkgbmbmaaGreatDoor
