/- Ask -/
import Derived.Test.YtklelheejopfmaaGreatK12
namespace Go.Proofs.YtklelheejopfmaaGreat
open Go Go.RowKit Go.Maps
attribute [local go_sem] Oper.semAt_some
theorem look_L {L : List Ent} {id : Int} {k : Kn} (ha : atL L id = some (0, k)) {v : Value} {ps : List MemPlace} (h : heldR v = some ((numD gL L).atKey (.int .i64 id) (.held Kn.zero.val), ps)) : v = k.val := by
  refine held_inj h ?_
  rw [numD_atKey]
  unfold atL at ha
  split at ha
  · rename_i h1
    rw [if_pos h1, ha]
    rfl
  · cases ha
theorem set_L {L : List Ent} {id : Int} {x : Ent} (h : atL L id = some x) (k2 : Kn) : (numD gL L).put (.int .i64 id) (.held k2.val) = numD gL (L.set (id - 1).toNat (0, k2)) := by
  obtain ⟨h1, h2⟩ := atL_wf h
  have h3 := numD_set (g := gL) L (id - 1).toNat (0, k2) k2.val (by omega) rfl
  have e : (((id - 1).toNat : Nat) : Int) + 1 = id := by omega
  rwa [e] at h3
theorem size_L (L : List Ent) : Maps.size (numD gL L) ≤ L.length := by rw [numD_size]; exact List.length_filter_le _ _
theorem size_K (L : List Ent) : Maps.size (numD gL L) = (liveK L).length := by
  rw [numD_size]
  unfold liveK
  suffices ∀ s, (L.filter fun x => (gL x).isSome).length = (numK gL s L).length from this 0
  induction L with
  | nil => intro s; rfl
  | cons x L ih =>
    intro s
    rw [numK, List.length_append, ← ih (s + 1), List.filter_cons]
    cases (gL x).isSome <;> simp <;> omega
theorem tabL_congr {L L' : List Ent} (h : L.map (·.1) = L'.map (·.1)) : numD gT L = numD gT L' := by
  have : ∀ (L L' : List Ent) (s : Nat), L.map (·.1) = L'.map (·.1) → numE gT s L = numE gT s L' := by
    intro L
    induction L with
    | nil => intro L' s h; cases L' with | nil => rfl | cons y L' => simp at h
    | cons x L ih =>
      intro L' s h
      cases L' with
      | nil => simp at h
      | cons y L' =>
        simp only [List.map_cons, List.cons.injEq] at h
        rw [numE, numE, ih L' (s + 1) h.2]
        unfold gT
        rw [h.1]
  exact congrArg DataW.map (this L L' 0 h)
theorem TabAt.congr {w : World} {bt tb : Nat} {most : Int} {L L' : List Ent} (h : TabAt w bt tb most L) (he : L.map (·.1) = L'.map (·.1)) : TabAt w bt tb most L' := by
  have hl : L.length = L'.length := by simpa using congrArg List.length he
  obtain ⟨h1, h2, h3⟩ := h
  rw [hl] at h1 h2 h3
  rw [tabL_congr he] at h2
  exact ⟨h1, h2, h3⟩
theorem set_fst {L : List Ent} {id : Int} {c : Int} {k k2 : Kn} (h : atL L id = some (c, k)) : (L.set (id - 1).toNat (c, k2)).map (·.1) = L.map (·.1) := by
  rw [List.map_set]
  unfold atL at h
  split at h
  · have h1 := (List.getElem?_eq_some_iff.1 h)
    obtain ⟨h2, h3⟩ := h1
    refine List.ext_getElem (by simp) fun i hi hi' => ?_
    rw [List.getElem_set]
    split
    · rename_i e; subst e; rw [List.getElem_map, h3]
    · rfl
  · cases h
theorem live_congr {L L' : List Ent} (h : L.map (·.1) = L'.map (·.1)) : liveK L = liveK L' := by
  unfold liveK
  suffices ∀ (L L' : List Ent) (s : Nat), L.map (·.1) = L'.map (·.1) → numK gL s L = numK gL s L' from this L L' 0 h
  intro L
  induction L with
  | nil => intro L' s h; cases L' with | nil => rfl | cons y L' => simp at h
  | cons x L ih =>
    intro L' s h
    cases L' with
    | nil => simp at h
    | cons y L' =>
      simp only [List.map_cons, List.cons.injEq] at h
      rw [numK, numK, ih L' (s + 1) h.2]
      congr 1
      unfold gL
      rw [h.1]
      split <;> rfl
theorem KnOk.mono {c : Cfg} {B B' : Int} {k : Kn} (h : KnOk c B k) (hB : B ≤ B') : KnOk c B' k := ⟨h.1, h.2.1, h.2.2.1, by have := h.2.2.2.1; omega, h.2.2.2.2⟩
theorem mem_set {L : List Ent} {i : Nat} {x y : Ent} (h : y ∈ L.set i x) : y ∈ L ∨ y = x := (List.mem_or_eq_of_mem_set h)
/-- behind a store of what is known of a live number -/
theorem MAt.stored {w w5 : World} {bm bt tb lb : Nat} {c : Cfg} {B B' : Int} {L : List Ent} {id : Int} {k k2 : Kn} (hm : Blk w5 bm 56 #[.int .i64 c.sess, .int .i64 c.frames, .int .i64 c.quota, .int .i64 c.room, .int .i64 c.slots, .pointer (some ⟨bt, 0, none⟩), .map (some lb)]) (ht : TabAt w5 bt tb c.sess L)
    (ho : w5.ownsMap Tryz.prog 3 heldR lb (L.length + 1) (numD gL (L.set (id - 1).toNat (0, k2)))) (h : MAt w bm bt tb lb c B L) (ha : atL L id = some (0, k)) (hB : B ≤ B') (hB' : B' ≤ 2 ^ 45) (hk : KnOk c B' k2) : MAt w5 bm bt tb lb c B' (L.set (id - 1).toNat (0, k2)) := by
  obtain ⟨h1, h2, h3, h4, h5, h6, h7, h8⟩ := h
  have hf := set_fst (k2 := k2) ha
  refine ⟨hm, ht.congr hf.symm, (own_tight ho).mono ?_, h4, h5, ?_, ?_, hB'⟩
  · have := size_L (L.set (id - 1).toNat (0, k2))
    exact this
  · intro x hx
    rcases mem_set hx with hx | rfl
    · exact (h6 x hx).mono hB
    · exact hk
  · rw [live_congr hf]; exact h7
set_option maxRecDepth 100000 in
theorem ask_nil (w : World) (id : Int) (fv : Value) : Calls Tryz.prog 43 #[.pointer none, .int .i64 id, .int .i64 0, fv] w fun e w' => e = .returned (.tuple #[.int .i64 0, .int .i64 1]) ∧ w = w' := by
  go_enter Tryz.func43, Tryz.ntmps43
  go_wp2_with (go_at_call 39; refine (mod_none_nil _).mono ?_; rintro e w' ⟨rfl, rfl⟩)
  go_returns
  exact ⟨rfl, rfl⟩
set_option maxRecDepth 100000 in
theorem ask_zero (w : World) (bm : Nat) (hz : w.cell? ⟨bm, 5, none⟩ = some (.pointer none)) (id : Int) (fv : Value) : Calls Tryz.prog 43 #[.pointer (some ⟨bm, 0, none⟩), .int .i64 id, .int .i64 0, fv] w fun e w' => e = .returned (.tuple #[.int .i64 0, .int .i64 1]) ∧ w = w' := by
  go_enter Tryz.func43, Tryz.ntmps43
  go_wp2_with (go_at_call 39; refine (mod_none_zero _ _ hz).mono ?_; rintro e w' ⟨rfl, rfl⟩)
  go_returns
  exact ⟨rfl, rfl⟩
/-- why a number is not live; 0: it is -/
def whyF (L : List Ent) (id : Int) : Int := match atL L id with | some x => x.1 | none => 18
set_option maxRecDepth 100000 in
theorem ask_why (w : World) (bm bt tb lb : Nat) (c : Cfg) (B : Int) (L : List Ent) (h : MAt w bm bt tb lb c B L) (id : Int) (hw : (Lit.int .i64 id).wf = true) (fv : Value) (hy : whyF L id ≠ 0) :
    Calls Tryz.prog 43 #[.pointer (some ⟨bm, 0, none⟩), .int .i64 id, .int .i64 0, fv] w fun e w' => e = .returned (.tuple #[.int .i64 0, .int .i64 (whyF L id)]) ∧ Below w.heap.size w w' := by
  have H := Lib.hid h
  have m5 := h.1.cell 5
  have CC := Lib.hid (table_Cause w bt tb c.sess L h.2.1 id hw)
  unfold causeF at CC
  unfold whyF at hy ⊢
  cases ha : atL L id with
  | none =>
    rw [ha] at CC hy
    dsimp only at CC hy ⊢
    clear h hy ha hw
    go_enter Tryz.func43, Tryz.ntmps43
    go_wp2_with (first
      | (go_at_call 39; refine (mod_none _ _ _ _ _ _ _ _ H.out).mono ?_; rintro e w' ⟨rfl, rfl⟩)
      | (go_at_call 40; refine CC.out.mono ?_; rintro e w1 ⟨rfl, hb1⟩; have HB := Lib.hid hb1; clear hb1))
    go_returns
    exact ⟨rfl, HB.out⟩
  | some x =>
    obtain ⟨d, k⟩ := x
    rw [ha] at CC hy
    dsimp only at CC hy ⊢
    have hd : (d != 0) = true := bne_iff_ne.2 hy
    clear h hy ha hw
    go_enter Tryz.func43, Tryz.ntmps43
    go_wp2_with (first
      | (go_at_call 39; refine (mod_none _ _ _ _ _ _ _ _ H.out).mono ?_; rintro e w' ⟨rfl, rfl⟩)
      | (go_at_call 40; refine CC.out.mono ?_; rintro e w1 ⟨rfl, hb1⟩; have HB := Lib.hid hb1; clear hb1))
    go_returns
    exact ⟨rfl, HB.out⟩
set_option maxRecDepth 100000 in
set_option maxHeartbeats 1000000 in
theorem ask_Feed_no (w : World) (bm bt tb lb : Nat) (bn bp : Nat) (c : Cfg) (B : Int) (L : List Ent) (h : MAt w bm bt tb lb c B L) (id : Int) (hw : (Lit.int .i64 id).wf = true) (k k2 : Kn) (ha : atL L id = some (0, k)) (out err : Int) (herr : err ≠ 0)
    (hC : ∀ W, Below w.heap.size w W → Calls Tryz.prog 51 #[k.val, .pointer (some ⟨bn, 0, none⟩), .pointer (some ⟨bp, 0, none⟩)] W fun e w' => e = .returned (.tuple #[k2.val, .int .i64 out, .int .i64 err]) ∧ Below W.heap.size W w') :
    Calls Tryz.prog 43 #[.pointer (some ⟨bm, 0, none⟩), .int .i64 id, .int .i64 0, .func (.func 51) #[] #[.pointer (some ⟨bn, 0, none⟩), .pointer (some ⟨bp, 0, none⟩)]] w fun e w' => e = .returned (.tuple #[.int .i64 0, .int .i64 err]) ∧ Below w.heap.size w w' := by
  have H := Lib.hid h
  have m5 := h.1.cell 5
  have CC := Lib.hid (table_Cause w bt tb c.sess L h.2.1 id hw)
  unfold causeF at CC
  rw [ha] at CC
  dsimp only at CC
  have HL := Lib.hid (fun v ps => look_L ha (v := v) (ps := ps))
  have HK := Lib.hid (key_int id hw)
  have HC := Lib.hid hC
  have HA := Lib.hid ha
  have HW := Lib.hid hw
  have hd : (err != 0) = true := bne_iff_ne.2 herr
  clear h ha hw hC herr
  go_enter Tryz.func43, Tryz.ntmps43
  go_wp2_with (first
    | (go_at_call 39; refine (mod_none _ _ _ _ _ _ _ _ H.out).mono ?_; rintro e w' ⟨rfl, rfl⟩)
    | (go_at_call 40; refine CC.out.mono ?_; rintro e w1 ⟨rfl, hb1⟩; have HB1 := Lib.hid hb1; have H1 := Lib.hid (H.out.later hb1); have y6 := H1.out.1.cell 6; obtain ⟨v, ps, hrun, hv⟩ := H1.out.2.2.1.lookup (t := 54) keyed_int Tryz.underlying54 (z := Kn.zero.val) (Tryz.zeroValue72 _) (zd := .held Kn.zero.val) (zp := []) rfl HK.out; obtain rfl := HL.out _ _ hv; clear hb1 hv)
    | (go_at_call 51; refine (HC.out _ HB1.out).mono ?_; rintro e w2 ⟨rfl, hb2⟩; have HB2' := Lib.hid (HB1.out.trans (hb2.mono HB1.out.size)); have H2 := Lib.hid (H1.out.later hb2); clear hb2 hrun y6))
  go_returns
  exact ⟨rfl, HB2'.out.alloc HB2'.out.size _⟩
set_option maxRecDepth 100000 in
set_option maxHeartbeats 1000000 in
theorem ask_Feed_ok (w : World) (bm bt tb lb : Nat) (bn bp : Nat) (c : Cfg) (B : Int) (L : List Ent) (h : MAt w bm bt tb lb c B L) (id : Int) (hw : (Lit.int .i64 id).wf = true) (k k2 : Kn) (ha : atL L id = some (0, k)) (out : Int) (B2 : Int) (hB : B ≤ B2) (hB2 : B2 ≤ 2 ^ 45) (hk : KnOk c B2 k2)
    (hC : ∀ W, Below w.heap.size w W → Calls Tryz.prog 51 #[k.val, .pointer (some ⟨bn, 0, none⟩), .pointer (some ⟨bp, 0, none⟩)] W fun e w' => e = .returned (.tuple #[k2.val, .int .i64 out, .int .i64 0]) ∧ Below W.heap.size W w') :
    Calls Tryz.prog 43 #[.pointer (some ⟨bm, 0, none⟩), .int .i64 id, .int .i64 0, .func (.func 51) #[] #[.pointer (some ⟨bn, 0, none⟩), .pointer (some ⟨bp, 0, none⟩)]] w fun e w' => e = .returned (.tuple #[.int .i64 out, .int .i64 0]) ∧ MAt w' bm bt tb lb c B2 (L.set (id - 1).toNat (0, k2)) ∧ Only [lb] w w' := by
  have H := Lib.hid h
  have m5 := h.1.cell 5
  have CC := Lib.hid (table_Cause w bt tb c.sess L h.2.1 id hw)
  unfold causeF at CC
  rw [ha] at CC
  dsimp only at CC
  have HL := Lib.hid (fun v ps => look_L ha (v := v) (ps := ps))
  have HK := Lib.hid (key_int id hw)
  have HC := Lib.hid hC
  have HA := Lib.hid ha
  have HW := Lib.hid hw
  have HKK := Lib.hid hk
  have HP := Lib.hid (set_L ha k2)
  have HB := Lib.hid hB
  have HB2 := Lib.hid hB2
  clear h ha hw hC hk hB hB2
  go_enter Tryz.func43, Tryz.ntmps43
  go_wp2_with (first
    | (go_at_call 39; refine (mod_none _ _ _ _ _ _ _ _ H.out).mono ?_; rintro e w' ⟨rfl, rfl⟩)
    | (go_at_call 40; refine CC.out.mono ?_; rintro e w1 ⟨rfl, hb1⟩; have HB1 := Lib.hid hb1; have H1 := Lib.hid (H.out.later hb1); have y6 := H1.out.1.cell 6; obtain ⟨v, ps, hrun, hv⟩ := H1.out.2.2.1.lookup (t := 54) keyed_int Tryz.underlying54 (z := Kn.zero.val) (Tryz.zeroValue72 _) (zd := .held Kn.zero.val) (zp := []) rfl HK.out; obtain rfl := HL.out _ _ hv; clear hb1 hv)
    | (go_at_call 51; refine (HC.out _ HB1.out).mono ?_; rintro e w2 ⟨rfl, hb2⟩; have HB2' := Lib.hid (HB1.out.trans (hb2.mono HB1.out.size)); have H2 := Lib.hid (H1.out.later hb2); clear hb2 hrun y6))
  have HS := Lib.hid (show Blk (w2.alloc (.cells #[.int .i64 k2.came, .bool k2.ended, .int .i64 k2.cause, .int .i64 k2.queued, .int .i64 k2.left, .int .i64 k2.free, .int .i64 k2.frames, .int .i64 k2.pics, .int .i64 k2.gone] 72)) bm 56 #[.int .i64 c.sess, .int .i64 c.frames, .int .i64 c.quota, .int .i64 c.room, .int .i64 c.slots, .pointer (some ⟨bt, 0, none⟩), .map (some lb)] ∧ Blk (w2.alloc (.cells #[.int .i64 k2.came, .bool k2.ended, .int .i64 k2.cause, .int .i64 k2.queued, .int .i64 k2.left, .int .i64 k2.free, .int .i64 k2.frames, .int .i64 k2.pics, .int .i64 k2.gone] 72)) w2.heap.size 72 #[.int .i64 k2.came, .bool k2.ended, .int .i64 k2.cause, .int .i64 k2.queued, .int .i64 k2.left, .int .i64 k2.free, .int .i64 k2.frames, .int .i64 k2.pics, .int .i64 k2.gone] from ⟨H2.out.1.alloc _, Blk.new _ _ _⟩)
  have H3 := Lib.hid (show MAt (w2.alloc (.cells #[.int .i64 k2.came, .bool k2.ended, .int .i64 k2.cause, .int .i64 k2.queued, .int .i64 k2.left, .int .i64 k2.free, .int .i64 k2.frames, .int .i64 k2.pics, .int .i64 k2.gone] 72)).drew bm bt tb lb c B L from H2.out.later (((Below.refl _ _).alloc (Nat.le_refl _) _).drew))
  have HO := Lib.hid (show Only [lb] w (w2.alloc (.cells #[.int .i64 k2.came, .bool k2.ended, .int .i64 k2.cause, .int .i64 k2.queued, .int .i64 k2.left, .int .i64 k2.free, .int .i64 k2.frames, .int .i64 k2.pics, .int .i64 k2.gone] 72)).drew from Only.of_below (HB2'.out.alloc HB2'.out.size _).drew)
  refine wp_region_plan2 (fun W => Blk W bm 56 #[.int .i64 c.sess, .int .i64 c.frames, .int .i64 c.quota, .int .i64 c.room, .int .i64 c.slots, .pointer (some ⟨bt, 0, none⟩), .map (some lb)] ∧ Blk W w2.heap.size 72 #[.int .i64 k2.came, .bool k2.ended, .int .i64 k2.cause, .int .i64 k2.queued, .int .i64 k2.left, .int .i64 k2.free, .int .i64 k2.frames, .int .i64 k2.pics, .int .i64 k2.gone]) 6 [(0, true), (1, true), (2, true), (3, true), (4, true), (5, true)] (by kernel_rfl) (by kernel_rfl) (fun _ _ d _ _ h => by cases d <;> exact h) (by decide) (by simp only [List.map_cons, List.map_nil, Array.getD_eq_getD_getElem?, List.getElem?_toArray, List.getElem?_cons_zero, List.getElem?_cons_succ, Option.getD_some]; rfl) (by simp only [List.map_cons, List.map_nil]; rfl) (HS.out) (fun PE hPE => ?_)
  refine plan_take (v := ?_) rfl (by rfl) ?_ ?_
  rotate_left
  · intro _ hSw; (try dsimp only at hSw); have y6 := hSw.1.cell 6; have z0 := hSw.2.cell 0; have z1 := hSw.2.cell 1; have z2 := hSw.2.cell 2; have z3 := hSw.2.cell 3; have z4 := hSw.2.cell 4; have z5 := hSw.2.cell 5; have z6 := hSw.2.cell 6; have z7 := hSw.2.cell 7; have z8 := hSw.2.cell 8; go_simp; (try with_reducible rfl)
  simp only [List.setIfInBounds_toArray, List.set_cons_zero, List.set_cons_succ]
  refine plan_take (v := ?_) rfl (by rfl) ?_ ?_
  rotate_left
  · intro _ hSw; (try dsimp only at hSw); have y6 := hSw.1.cell 6; have z0 := hSw.2.cell 0; have z1 := hSw.2.cell 1; have z2 := hSw.2.cell 2; have z3 := hSw.2.cell 3; have z4 := hSw.2.cell 4; have z5 := hSw.2.cell 5; have z6 := hSw.2.cell 6; have z7 := hSw.2.cell 7; have z8 := hSw.2.cell 8; go_simp; (try with_reducible rfl)
  simp only [List.setIfInBounds_toArray, List.set_cons_zero, List.set_cons_succ]
  refine plan_take (v := ?_) rfl (by rfl) ?_ ?_
  rotate_left
  · intro _ hSw; (try dsimp only at hSw); have y6 := hSw.1.cell 6; have z0 := hSw.2.cell 0; have z1 := hSw.2.cell 1; have z2 := hSw.2.cell 2; have z3 := hSw.2.cell 3; have z4 := hSw.2.cell 4; have z5 := hSw.2.cell 5; have z6 := hSw.2.cell 6; have z7 := hSw.2.cell 7; have z8 := hSw.2.cell 8; go_simp; (try with_reducible rfl)
  simp only [List.setIfInBounds_toArray, List.set_cons_zero, List.set_cons_succ]
  refine plan_take (v := ?_) rfl (by rfl) ?_ ?_
  rotate_left
  · intro _ hSw; (try dsimp only at hSw); have y6 := hSw.1.cell 6; have z0 := hSw.2.cell 0; have z1 := hSw.2.cell 1; have z2 := hSw.2.cell 2; have z3 := hSw.2.cell 3; have z4 := hSw.2.cell 4; have z5 := hSw.2.cell 5; have z6 := hSw.2.cell 6; have z7 := hSw.2.cell 7; have z8 := hSw.2.cell 8; go_simp; (try with_reducible rfl)
  simp only [List.setIfInBounds_toArray, List.set_cons_zero, List.set_cons_succ]
  refine plan_take (v := ?_) rfl (by rfl) ?_ ?_
  rotate_left
  · intro _ hSw; (try dsimp only at hSw); have y6 := hSw.1.cell 6; have z0 := hSw.2.cell 0; have z1 := hSw.2.cell 1; have z2 := hSw.2.cell 2; have z3 := hSw.2.cell 3; have z4 := hSw.2.cell 4; have z5 := hSw.2.cell 5; have z6 := hSw.2.cell 6; have z7 := hSw.2.cell 7; have z8 := hSw.2.cell 8; go_simp; (try with_reducible rfl)
  simp only [List.setIfInBounds_toArray, List.set_cons_zero, List.set_cons_succ]
  refine plan_take (v := ?_) rfl (by rfl) ?_ ?_
  rotate_left
  · intro _ hSw; (try dsimp only at hSw); have y6 := hSw.1.cell 6; have z0 := hSw.2.cell 0; have z1 := hSw.2.cell 1; have z2 := hSw.2.cell 2; have z3 := hSw.2.cell 3; have z4 := hSw.2.cell 4; have z5 := hSw.2.cell 5; have z6 := hSw.2.cell 6; have z7 := hSw.2.cell 7; have z8 := hSw.2.cell 8; go_simp; (try with_reducible rfl)
  simp only [List.setIfInBounds_toArray, List.set_cons_zero, List.set_cons_succ]
  (refine hPE _ _ ?_; simp only [List.drop_succ_cons, List.drop_zero]; clear hPE PE)
  generalize (w2.alloc (.cells #[.int .i64 k2.came, .bool k2.ended, .int .i64 k2.cause, .int .i64 k2.queued, .int .i64 k2.left, .int .i64 k2.free, .int .i64 k2.frames, .int .i64 k2.pics, .int .i64 k2.gone] 72)).drew = W at H3 HO ⊢
  go_wp2_with (at_mapUpdate; refine wpList_mapUpdate_in _ rfl _ _ _ 54 rfl 3 72 keyed_int Tryz.underlying54 heldR lb L.length _ rfl H3.out.2.2.1 (by have := H3.out.2.1.2.2.1; unfold maxLen; omega) (.int .i64 id) k2.val (.int .i64 id) rfl rfl HK.out (.held k2.val) [] rfl ?_; intro w5 hown5 hturn5; rw [HP.out] at hown5; have HO5 := Lib.hid hown5; have HU5 := Lib.hid hturn5; clear hown5 hturn5)
  go_returns
  have hO := HO.out.turned HU5.out (b := lb) (by simp)
  have hlt : TabAt w5 bt tb c.sess L := ⟨blk_turned H3.out.2.1.1 HU5.out, (Only.turned (Only.of_below (Below.refl _ _)) HU5.out (by simp : lb ∈ [lb])).own H3.out.2.1.2.1 (by simpa using H3.out.2.2.2.1), H3.out.2.1.2.2⟩
  exact ⟨rfl, MAt.stored (blk_turned H3.out.1 HU5.out) hlt HO5.out H.out HA.out HB.out HB2.out HKK.out, hO⟩
set_option maxRecDepth 100000 in
set_option maxHeartbeats 1000000 in
theorem ask_See_no (w : World) (bm bt tb lb : Nat) (bn bp : Nat) (c : Cfg) (B : Int) (L : List Ent) (h : MAt w bm bt tb lb c B L) (id : Int) (hw : (Lit.int .i64 id).wf = true) (k k2 : Kn) (ha : atL L id = some (0, k)) (out err : Int) (herr : err ≠ 0)
    (hC : ∀ W, Below w.heap.size w W → Calls Tryz.prog 44 #[k.val, .pointer (some ⟨bn, 0, none⟩), .pointer (some ⟨bp, 0, none⟩)] W fun e w' => e = .returned (.tuple #[k2.val, .int .i64 out, .int .i64 err]) ∧ Below W.heap.size W w') :
    Calls Tryz.prog 43 #[.pointer (some ⟨bm, 0, none⟩), .int .i64 id, .int .i64 0, .func (.func 44) #[] #[.pointer (some ⟨bn, 0, none⟩), .pointer (some ⟨bp, 0, none⟩)]] w fun e w' => e = .returned (.tuple #[.int .i64 0, .int .i64 err]) ∧ Below w.heap.size w w' := by
  have H := Lib.hid h
  have m5 := h.1.cell 5
  have CC := Lib.hid (table_Cause w bt tb c.sess L h.2.1 id hw)
  unfold causeF at CC
  rw [ha] at CC
  dsimp only at CC
  have HL := Lib.hid (fun v ps => look_L ha (v := v) (ps := ps))
  have HK := Lib.hid (key_int id hw)
  have HC := Lib.hid hC
  have HA := Lib.hid ha
  have HW := Lib.hid hw
  have hd : (err != 0) = true := bne_iff_ne.2 herr
  clear h ha hw hC herr
  go_enter Tryz.func43, Tryz.ntmps43
  go_wp2_with (first
    | (go_at_call 39; refine (mod_none _ _ _ _ _ _ _ _ H.out).mono ?_; rintro e w' ⟨rfl, rfl⟩)
    | (go_at_call 40; refine CC.out.mono ?_; rintro e w1 ⟨rfl, hb1⟩; have HB1 := Lib.hid hb1; have H1 := Lib.hid (H.out.later hb1); have y6 := H1.out.1.cell 6; obtain ⟨v, ps, hrun, hv⟩ := H1.out.2.2.1.lookup (t := 54) keyed_int Tryz.underlying54 (z := Kn.zero.val) (Tryz.zeroValue72 _) (zd := .held Kn.zero.val) (zp := []) rfl HK.out; obtain rfl := HL.out _ _ hv; clear hb1 hv)
    | (go_at_call 44; refine (HC.out _ HB1.out).mono ?_; rintro e w2 ⟨rfl, hb2⟩; have HB2' := Lib.hid (HB1.out.trans (hb2.mono HB1.out.size)); have H2 := Lib.hid (H1.out.later hb2); clear hb2 hrun y6))
  go_returns
  exact ⟨rfl, HB2'.out.alloc HB2'.out.size _⟩
set_option maxRecDepth 100000 in
set_option maxHeartbeats 1000000 in
theorem ask_See_ok (w : World) (bm bt tb lb : Nat) (bn bp : Nat) (c : Cfg) (B : Int) (L : List Ent) (h : MAt w bm bt tb lb c B L) (id : Int) (hw : (Lit.int .i64 id).wf = true) (k k2 : Kn) (ha : atL L id = some (0, k)) (out : Int) (B2 : Int) (hB : B ≤ B2) (hB2 : B2 ≤ 2 ^ 45) (hk : KnOk c B2 k2)
    (hC : ∀ W, Below w.heap.size w W → Calls Tryz.prog 44 #[k.val, .pointer (some ⟨bn, 0, none⟩), .pointer (some ⟨bp, 0, none⟩)] W fun e w' => e = .returned (.tuple #[k2.val, .int .i64 out, .int .i64 0]) ∧ Below W.heap.size W w') :
    Calls Tryz.prog 43 #[.pointer (some ⟨bm, 0, none⟩), .int .i64 id, .int .i64 0, .func (.func 44) #[] #[.pointer (some ⟨bn, 0, none⟩), .pointer (some ⟨bp, 0, none⟩)]] w fun e w' => e = .returned (.tuple #[.int .i64 out, .int .i64 0]) ∧ MAt w' bm bt tb lb c B2 (L.set (id - 1).toNat (0, k2)) ∧ Only [lb] w w' := by
  have H := Lib.hid h
  have m5 := h.1.cell 5
  have CC := Lib.hid (table_Cause w bt tb c.sess L h.2.1 id hw)
  unfold causeF at CC
  rw [ha] at CC
  dsimp only at CC
  have HL := Lib.hid (fun v ps => look_L ha (v := v) (ps := ps))
  have HK := Lib.hid (key_int id hw)
  have HC := Lib.hid hC
  have HA := Lib.hid ha
  have HW := Lib.hid hw
  have HKK := Lib.hid hk
  have HP := Lib.hid (set_L ha k2)
  have HB := Lib.hid hB
  have HB2 := Lib.hid hB2
  clear h ha hw hC hk hB hB2
  go_enter Tryz.func43, Tryz.ntmps43
  go_wp2_with (first
    | (go_at_call 39; refine (mod_none _ _ _ _ _ _ _ _ H.out).mono ?_; rintro e w' ⟨rfl, rfl⟩)
    | (go_at_call 40; refine CC.out.mono ?_; rintro e w1 ⟨rfl, hb1⟩; have HB1 := Lib.hid hb1; have H1 := Lib.hid (H.out.later hb1); have y6 := H1.out.1.cell 6; obtain ⟨v, ps, hrun, hv⟩ := H1.out.2.2.1.lookup (t := 54) keyed_int Tryz.underlying54 (z := Kn.zero.val) (Tryz.zeroValue72 _) (zd := .held Kn.zero.val) (zp := []) rfl HK.out; obtain rfl := HL.out _ _ hv; clear hb1 hv)
    | (go_at_call 44; refine (HC.out _ HB1.out).mono ?_; rintro e w2 ⟨rfl, hb2⟩; have HB2' := Lib.hid (HB1.out.trans (hb2.mono HB1.out.size)); have H2 := Lib.hid (H1.out.later hb2); clear hb2 hrun y6))
  have HS := Lib.hid (show Blk (w2.alloc (.cells #[.int .i64 k2.came, .bool k2.ended, .int .i64 k2.cause, .int .i64 k2.queued, .int .i64 k2.left, .int .i64 k2.free, .int .i64 k2.frames, .int .i64 k2.pics, .int .i64 k2.gone] 72)) bm 56 #[.int .i64 c.sess, .int .i64 c.frames, .int .i64 c.quota, .int .i64 c.room, .int .i64 c.slots, .pointer (some ⟨bt, 0, none⟩), .map (some lb)] ∧ Blk (w2.alloc (.cells #[.int .i64 k2.came, .bool k2.ended, .int .i64 k2.cause, .int .i64 k2.queued, .int .i64 k2.left, .int .i64 k2.free, .int .i64 k2.frames, .int .i64 k2.pics, .int .i64 k2.gone] 72)) w2.heap.size 72 #[.int .i64 k2.came, .bool k2.ended, .int .i64 k2.cause, .int .i64 k2.queued, .int .i64 k2.left, .int .i64 k2.free, .int .i64 k2.frames, .int .i64 k2.pics, .int .i64 k2.gone] from ⟨H2.out.1.alloc _, Blk.new _ _ _⟩)
  have H3 := Lib.hid (show MAt (w2.alloc (.cells #[.int .i64 k2.came, .bool k2.ended, .int .i64 k2.cause, .int .i64 k2.queued, .int .i64 k2.left, .int .i64 k2.free, .int .i64 k2.frames, .int .i64 k2.pics, .int .i64 k2.gone] 72)).drew bm bt tb lb c B L from H2.out.later (((Below.refl _ _).alloc (Nat.le_refl _) _).drew))
  have HO := Lib.hid (show Only [lb] w (w2.alloc (.cells #[.int .i64 k2.came, .bool k2.ended, .int .i64 k2.cause, .int .i64 k2.queued, .int .i64 k2.left, .int .i64 k2.free, .int .i64 k2.frames, .int .i64 k2.pics, .int .i64 k2.gone] 72)).drew from Only.of_below (HB2'.out.alloc HB2'.out.size _).drew)
  refine wp_region_plan2 (fun W => Blk W bm 56 #[.int .i64 c.sess, .int .i64 c.frames, .int .i64 c.quota, .int .i64 c.room, .int .i64 c.slots, .pointer (some ⟨bt, 0, none⟩), .map (some lb)] ∧ Blk W w2.heap.size 72 #[.int .i64 k2.came, .bool k2.ended, .int .i64 k2.cause, .int .i64 k2.queued, .int .i64 k2.left, .int .i64 k2.free, .int .i64 k2.frames, .int .i64 k2.pics, .int .i64 k2.gone]) 6 [(0, true), (1, true), (2, true), (3, true), (4, true), (5, true)] (by kernel_rfl) (by kernel_rfl) (fun _ _ d _ _ h => by cases d <;> exact h) (by decide) (by simp only [List.map_cons, List.map_nil, Array.getD_eq_getD_getElem?, List.getElem?_toArray, List.getElem?_cons_zero, List.getElem?_cons_succ, Option.getD_some]; rfl) (by simp only [List.map_cons, List.map_nil]; rfl) (HS.out) (fun PE hPE => ?_)
  refine plan_take (v := ?_) rfl (by rfl) ?_ ?_
  rotate_left
  · intro _ hSw; (try dsimp only at hSw); have y6 := hSw.1.cell 6; have z0 := hSw.2.cell 0; have z1 := hSw.2.cell 1; have z2 := hSw.2.cell 2; have z3 := hSw.2.cell 3; have z4 := hSw.2.cell 4; have z5 := hSw.2.cell 5; have z6 := hSw.2.cell 6; have z7 := hSw.2.cell 7; have z8 := hSw.2.cell 8; go_simp; (try with_reducible rfl)
  simp only [List.setIfInBounds_toArray, List.set_cons_zero, List.set_cons_succ]
  refine plan_take (v := ?_) rfl (by rfl) ?_ ?_
  rotate_left
  · intro _ hSw; (try dsimp only at hSw); have y6 := hSw.1.cell 6; have z0 := hSw.2.cell 0; have z1 := hSw.2.cell 1; have z2 := hSw.2.cell 2; have z3 := hSw.2.cell 3; have z4 := hSw.2.cell 4; have z5 := hSw.2.cell 5; have z6 := hSw.2.cell 6; have z7 := hSw.2.cell 7; have z8 := hSw.2.cell 8; go_simp; (try with_reducible rfl)
  simp only [List.setIfInBounds_toArray, List.set_cons_zero, List.set_cons_succ]
  refine plan_take (v := ?_) rfl (by rfl) ?_ ?_
  rotate_left
  · intro _ hSw; (try dsimp only at hSw); have y6 := hSw.1.cell 6; have z0 := hSw.2.cell 0; have z1 := hSw.2.cell 1; have z2 := hSw.2.cell 2; have z3 := hSw.2.cell 3; have z4 := hSw.2.cell 4; have z5 := hSw.2.cell 5; have z6 := hSw.2.cell 6; have z7 := hSw.2.cell 7; have z8 := hSw.2.cell 8; go_simp; (try with_reducible rfl)
  simp only [List.setIfInBounds_toArray, List.set_cons_zero, List.set_cons_succ]
  refine plan_take (v := ?_) rfl (by rfl) ?_ ?_
  rotate_left
  · intro _ hSw; (try dsimp only at hSw); have y6 := hSw.1.cell 6; have z0 := hSw.2.cell 0; have z1 := hSw.2.cell 1; have z2 := hSw.2.cell 2; have z3 := hSw.2.cell 3; have z4 := hSw.2.cell 4; have z5 := hSw.2.cell 5; have z6 := hSw.2.cell 6; have z7 := hSw.2.cell 7; have z8 := hSw.2.cell 8; go_simp; (try with_reducible rfl)
  simp only [List.setIfInBounds_toArray, List.set_cons_zero, List.set_cons_succ]
  refine plan_take (v := ?_) rfl (by rfl) ?_ ?_
  rotate_left
  · intro _ hSw; (try dsimp only at hSw); have y6 := hSw.1.cell 6; have z0 := hSw.2.cell 0; have z1 := hSw.2.cell 1; have z2 := hSw.2.cell 2; have z3 := hSw.2.cell 3; have z4 := hSw.2.cell 4; have z5 := hSw.2.cell 5; have z6 := hSw.2.cell 6; have z7 := hSw.2.cell 7; have z8 := hSw.2.cell 8; go_simp; (try with_reducible rfl)
  simp only [List.setIfInBounds_toArray, List.set_cons_zero, List.set_cons_succ]
  refine plan_take (v := ?_) rfl (by rfl) ?_ ?_
  rotate_left
  · intro _ hSw; (try dsimp only at hSw); have y6 := hSw.1.cell 6; have z0 := hSw.2.cell 0; have z1 := hSw.2.cell 1; have z2 := hSw.2.cell 2; have z3 := hSw.2.cell 3; have z4 := hSw.2.cell 4; have z5 := hSw.2.cell 5; have z6 := hSw.2.cell 6; have z7 := hSw.2.cell 7; have z8 := hSw.2.cell 8; go_simp; (try with_reducible rfl)
  simp only [List.setIfInBounds_toArray, List.set_cons_zero, List.set_cons_succ]
  (refine hPE _ _ ?_; simp only [List.drop_succ_cons, List.drop_zero]; clear hPE PE)
  generalize (w2.alloc (.cells #[.int .i64 k2.came, .bool k2.ended, .int .i64 k2.cause, .int .i64 k2.queued, .int .i64 k2.left, .int .i64 k2.free, .int .i64 k2.frames, .int .i64 k2.pics, .int .i64 k2.gone] 72)).drew = W at H3 HO ⊢
  go_wp2_with (at_mapUpdate; refine wpList_mapUpdate_in _ rfl _ _ _ 54 rfl 3 72 keyed_int Tryz.underlying54 heldR lb L.length _ rfl H3.out.2.2.1 (by have := H3.out.2.1.2.2.1; unfold maxLen; omega) (.int .i64 id) k2.val (.int .i64 id) rfl rfl HK.out (.held k2.val) [] rfl ?_; intro w5 hown5 hturn5; rw [HP.out] at hown5; have HO5 := Lib.hid hown5; have HU5 := Lib.hid hturn5; clear hown5 hturn5)
  go_returns
  have hO := HO.out.turned HU5.out (b := lb) (by simp)
  have hlt : TabAt w5 bt tb c.sess L := ⟨blk_turned H3.out.2.1.1 HU5.out, (Only.turned (Only.of_below (Below.refl _ _)) HU5.out (by simp : lb ∈ [lb])).own H3.out.2.1.2.1 (by simpa using H3.out.2.2.2.1), H3.out.2.1.2.2⟩
  exact ⟨rfl, MAt.stored (blk_turned H3.out.1 HU5.out) hlt HO5.out H.out HA.out HB.out HB2.out HKK.out, hO⟩
set_option maxRecDepth 100000 in
set_option maxHeartbeats 1000000 in
theorem ask_End_no (w : World) (bm bt tb lb : Nat) (c : Cfg) (B : Int) (L : List Ent) (h : MAt w bm bt tb lb c B L) (id : Int) (hw : (Lit.int .i64 id).wf = true) (k k2 : Kn) (ha : atL L id = some (0, k)) (out err : Int) (herr : err ≠ 0)
    (hC : ∀ W, Below w.heap.size w W → Calls Tryz.prog 54 #[k.val] W fun e w' => e = .returned (.tuple #[k2.val, .int .i64 out, .int .i64 err]) ∧ Below W.heap.size W w') :
    Calls Tryz.prog 43 #[.pointer (some ⟨bm, 0, none⟩), .int .i64 id, .int .i64 0, .func (.func 54) #[] #[]] w fun e w' => e = .returned (.tuple #[.int .i64 0, .int .i64 err]) ∧ Below w.heap.size w w' := by
  have H := Lib.hid h
  have m5 := h.1.cell 5
  have CC := Lib.hid (table_Cause w bt tb c.sess L h.2.1 id hw)
  unfold causeF at CC
  rw [ha] at CC
  dsimp only at CC
  have HL := Lib.hid (fun v ps => look_L ha (v := v) (ps := ps))
  have HK := Lib.hid (key_int id hw)
  have HC := Lib.hid hC
  have HA := Lib.hid ha
  have HW := Lib.hid hw
  have hd : (err != 0) = true := bne_iff_ne.2 herr
  clear h ha hw hC herr
  go_enter Tryz.func43, Tryz.ntmps43
  go_wp2_with (first
    | (go_at_call 39; refine (mod_none _ _ _ _ _ _ _ _ H.out).mono ?_; rintro e w' ⟨rfl, rfl⟩)
    | (go_at_call 40; refine CC.out.mono ?_; rintro e w1 ⟨rfl, hb1⟩; have HB1 := Lib.hid hb1; have H1 := Lib.hid (H.out.later hb1); have y6 := H1.out.1.cell 6; obtain ⟨v, ps, hrun, hv⟩ := H1.out.2.2.1.lookup (t := 54) keyed_int Tryz.underlying54 (z := Kn.zero.val) (Tryz.zeroValue72 _) (zd := .held Kn.zero.val) (zp := []) rfl HK.out; obtain rfl := HL.out _ _ hv; clear hb1 hv)
    | (go_at_call 54; refine (HC.out _ HB1.out).mono ?_; rintro e w2 ⟨rfl, hb2⟩; have HB2' := Lib.hid (HB1.out.trans (hb2.mono HB1.out.size)); have H2 := Lib.hid (H1.out.later hb2); clear hb2 hrun y6))
  go_returns
  exact ⟨rfl, HB2'.out.alloc HB2'.out.size _⟩
set_option maxRecDepth 100000 in
set_option maxHeartbeats 1000000 in
theorem ask_End_ok (w : World) (bm bt tb lb : Nat) (c : Cfg) (B : Int) (L : List Ent) (h : MAt w bm bt tb lb c B L) (id : Int) (hw : (Lit.int .i64 id).wf = true) (k k2 : Kn) (ha : atL L id = some (0, k)) (out : Int) (B2 : Int) (hB : B ≤ B2) (hB2 : B2 ≤ 2 ^ 45) (hk : KnOk c B2 k2)
    (hC : ∀ W, Below w.heap.size w W → Calls Tryz.prog 54 #[k.val] W fun e w' => e = .returned (.tuple #[k2.val, .int .i64 out, .int .i64 0]) ∧ Below W.heap.size W w') :
    Calls Tryz.prog 43 #[.pointer (some ⟨bm, 0, none⟩), .int .i64 id, .int .i64 0, .func (.func 54) #[] #[]] w fun e w' => e = .returned (.tuple #[.int .i64 out, .int .i64 0]) ∧ MAt w' bm bt tb lb c B2 (L.set (id - 1).toNat (0, k2)) ∧ Only [lb] w w' := by
  have H := Lib.hid h
  have m5 := h.1.cell 5
  have CC := Lib.hid (table_Cause w bt tb c.sess L h.2.1 id hw)
  unfold causeF at CC
  rw [ha] at CC
  dsimp only at CC
  have HL := Lib.hid (fun v ps => look_L ha (v := v) (ps := ps))
  have HK := Lib.hid (key_int id hw)
  have HC := Lib.hid hC
  have HA := Lib.hid ha
  have HW := Lib.hid hw
  have HKK := Lib.hid hk
  have HP := Lib.hid (set_L ha k2)
  have HB := Lib.hid hB
  have HB2 := Lib.hid hB2
  clear h ha hw hC hk hB hB2
  go_enter Tryz.func43, Tryz.ntmps43
  go_wp2_with (first
    | (go_at_call 39; refine (mod_none _ _ _ _ _ _ _ _ H.out).mono ?_; rintro e w' ⟨rfl, rfl⟩)
    | (go_at_call 40; refine CC.out.mono ?_; rintro e w1 ⟨rfl, hb1⟩; have HB1 := Lib.hid hb1; have H1 := Lib.hid (H.out.later hb1); have y6 := H1.out.1.cell 6; obtain ⟨v, ps, hrun, hv⟩ := H1.out.2.2.1.lookup (t := 54) keyed_int Tryz.underlying54 (z := Kn.zero.val) (Tryz.zeroValue72 _) (zd := .held Kn.zero.val) (zp := []) rfl HK.out; obtain rfl := HL.out _ _ hv; clear hb1 hv)
    | (go_at_call 54; refine (HC.out _ HB1.out).mono ?_; rintro e w2 ⟨rfl, hb2⟩; have HB2' := Lib.hid (HB1.out.trans (hb2.mono HB1.out.size)); have H2 := Lib.hid (H1.out.later hb2); clear hb2 hrun y6))
  have HS := Lib.hid (show Blk (w2.alloc (.cells #[.int .i64 k2.came, .bool k2.ended, .int .i64 k2.cause, .int .i64 k2.queued, .int .i64 k2.left, .int .i64 k2.free, .int .i64 k2.frames, .int .i64 k2.pics, .int .i64 k2.gone] 72)) bm 56 #[.int .i64 c.sess, .int .i64 c.frames, .int .i64 c.quota, .int .i64 c.room, .int .i64 c.slots, .pointer (some ⟨bt, 0, none⟩), .map (some lb)] ∧ Blk (w2.alloc (.cells #[.int .i64 k2.came, .bool k2.ended, .int .i64 k2.cause, .int .i64 k2.queued, .int .i64 k2.left, .int .i64 k2.free, .int .i64 k2.frames, .int .i64 k2.pics, .int .i64 k2.gone] 72)) w2.heap.size 72 #[.int .i64 k2.came, .bool k2.ended, .int .i64 k2.cause, .int .i64 k2.queued, .int .i64 k2.left, .int .i64 k2.free, .int .i64 k2.frames, .int .i64 k2.pics, .int .i64 k2.gone] from ⟨H2.out.1.alloc _, Blk.new _ _ _⟩)
  have H3 := Lib.hid (show MAt (w2.alloc (.cells #[.int .i64 k2.came, .bool k2.ended, .int .i64 k2.cause, .int .i64 k2.queued, .int .i64 k2.left, .int .i64 k2.free, .int .i64 k2.frames, .int .i64 k2.pics, .int .i64 k2.gone] 72)).drew bm bt tb lb c B L from H2.out.later (((Below.refl _ _).alloc (Nat.le_refl _) _).drew))
  have HO := Lib.hid (show Only [lb] w (w2.alloc (.cells #[.int .i64 k2.came, .bool k2.ended, .int .i64 k2.cause, .int .i64 k2.queued, .int .i64 k2.left, .int .i64 k2.free, .int .i64 k2.frames, .int .i64 k2.pics, .int .i64 k2.gone] 72)).drew from Only.of_below (HB2'.out.alloc HB2'.out.size _).drew)
  refine wp_region_plan2 (fun W => Blk W bm 56 #[.int .i64 c.sess, .int .i64 c.frames, .int .i64 c.quota, .int .i64 c.room, .int .i64 c.slots, .pointer (some ⟨bt, 0, none⟩), .map (some lb)] ∧ Blk W w2.heap.size 72 #[.int .i64 k2.came, .bool k2.ended, .int .i64 k2.cause, .int .i64 k2.queued, .int .i64 k2.left, .int .i64 k2.free, .int .i64 k2.frames, .int .i64 k2.pics, .int .i64 k2.gone]) 6 [(0, true), (1, true), (2, true), (3, true), (4, true), (5, true)] (by kernel_rfl) (by kernel_rfl) (fun _ _ d _ _ h => by cases d <;> exact h) (by decide) (by simp only [List.map_cons, List.map_nil, Array.getD_eq_getD_getElem?, List.getElem?_toArray, List.getElem?_cons_zero, List.getElem?_cons_succ, Option.getD_some]; rfl) (by simp only [List.map_cons, List.map_nil]; rfl) (HS.out) (fun PE hPE => ?_)
  refine plan_take (v := ?_) rfl (by rfl) ?_ ?_
  rotate_left
  · intro _ hSw; (try dsimp only at hSw); have y6 := hSw.1.cell 6; have z0 := hSw.2.cell 0; have z1 := hSw.2.cell 1; have z2 := hSw.2.cell 2; have z3 := hSw.2.cell 3; have z4 := hSw.2.cell 4; have z5 := hSw.2.cell 5; have z6 := hSw.2.cell 6; have z7 := hSw.2.cell 7; have z8 := hSw.2.cell 8; go_simp; (try with_reducible rfl)
  simp only [List.setIfInBounds_toArray, List.set_cons_zero, List.set_cons_succ]
  refine plan_take (v := ?_) rfl (by rfl) ?_ ?_
  rotate_left
  · intro _ hSw; (try dsimp only at hSw); have y6 := hSw.1.cell 6; have z0 := hSw.2.cell 0; have z1 := hSw.2.cell 1; have z2 := hSw.2.cell 2; have z3 := hSw.2.cell 3; have z4 := hSw.2.cell 4; have z5 := hSw.2.cell 5; have z6 := hSw.2.cell 6; have z7 := hSw.2.cell 7; have z8 := hSw.2.cell 8; go_simp; (try with_reducible rfl)
  simp only [List.setIfInBounds_toArray, List.set_cons_zero, List.set_cons_succ]
  refine plan_take (v := ?_) rfl (by rfl) ?_ ?_
  rotate_left
  · intro _ hSw; (try dsimp only at hSw); have y6 := hSw.1.cell 6; have z0 := hSw.2.cell 0; have z1 := hSw.2.cell 1; have z2 := hSw.2.cell 2; have z3 := hSw.2.cell 3; have z4 := hSw.2.cell 4; have z5 := hSw.2.cell 5; have z6 := hSw.2.cell 6; have z7 := hSw.2.cell 7; have z8 := hSw.2.cell 8; go_simp; (try with_reducible rfl)
  simp only [List.setIfInBounds_toArray, List.set_cons_zero, List.set_cons_succ]
  refine plan_take (v := ?_) rfl (by rfl) ?_ ?_
  rotate_left
  · intro _ hSw; (try dsimp only at hSw); have y6 := hSw.1.cell 6; have z0 := hSw.2.cell 0; have z1 := hSw.2.cell 1; have z2 := hSw.2.cell 2; have z3 := hSw.2.cell 3; have z4 := hSw.2.cell 4; have z5 := hSw.2.cell 5; have z6 := hSw.2.cell 6; have z7 := hSw.2.cell 7; have z8 := hSw.2.cell 8; go_simp; (try with_reducible rfl)
  simp only [List.setIfInBounds_toArray, List.set_cons_zero, List.set_cons_succ]
  refine plan_take (v := ?_) rfl (by rfl) ?_ ?_
  rotate_left
  · intro _ hSw; (try dsimp only at hSw); have y6 := hSw.1.cell 6; have z0 := hSw.2.cell 0; have z1 := hSw.2.cell 1; have z2 := hSw.2.cell 2; have z3 := hSw.2.cell 3; have z4 := hSw.2.cell 4; have z5 := hSw.2.cell 5; have z6 := hSw.2.cell 6; have z7 := hSw.2.cell 7; have z8 := hSw.2.cell 8; go_simp; (try with_reducible rfl)
  simp only [List.setIfInBounds_toArray, List.set_cons_zero, List.set_cons_succ]
  refine plan_take (v := ?_) rfl (by rfl) ?_ ?_
  rotate_left
  · intro _ hSw; (try dsimp only at hSw); have y6 := hSw.1.cell 6; have z0 := hSw.2.cell 0; have z1 := hSw.2.cell 1; have z2 := hSw.2.cell 2; have z3 := hSw.2.cell 3; have z4 := hSw.2.cell 4; have z5 := hSw.2.cell 5; have z6 := hSw.2.cell 6; have z7 := hSw.2.cell 7; have z8 := hSw.2.cell 8; go_simp; (try with_reducible rfl)
  simp only [List.setIfInBounds_toArray, List.set_cons_zero, List.set_cons_succ]
  (refine hPE _ _ ?_; simp only [List.drop_succ_cons, List.drop_zero]; clear hPE PE)
  generalize (w2.alloc (.cells #[.int .i64 k2.came, .bool k2.ended, .int .i64 k2.cause, .int .i64 k2.queued, .int .i64 k2.left, .int .i64 k2.free, .int .i64 k2.frames, .int .i64 k2.pics, .int .i64 k2.gone] 72)).drew = W at H3 HO ⊢
  go_wp2_with (at_mapUpdate; refine wpList_mapUpdate_in _ rfl _ _ _ 54 rfl 3 72 keyed_int Tryz.underlying54 heldR lb L.length _ rfl H3.out.2.2.1 (by have := H3.out.2.1.2.2.1; unfold maxLen; omega) (.int .i64 id) k2.val (.int .i64 id) rfl rfl HK.out (.held k2.val) [] rfl ?_; intro w5 hown5 hturn5; rw [HP.out] at hown5; have HO5 := Lib.hid hown5; have HU5 := Lib.hid hturn5; clear hown5 hturn5)
  go_returns
  have hO := HO.out.turned HU5.out (b := lb) (by simp)
  have hlt : TabAt w5 bt tb c.sess L := ⟨blk_turned H3.out.2.1.1 HU5.out, (Only.turned (Only.of_below (Below.refl _ _)) HU5.out (by simp : lb ∈ [lb])).own H3.out.2.1.2.1 (by simpa using H3.out.2.2.2.1), H3.out.2.1.2.2⟩
  exact ⟨rfl, MAt.stored (blk_turned H3.out.1 HU5.out) hlt HO5.out H.out HA.out HB.out HB2.out HKK.out, hO⟩
set_option maxRecDepth 100000 in
set_option maxHeartbeats 1000000 in
theorem ask_out_no (w : World) (bm bt tb lb : Nat) (c : Cfg) (B : Int) (L : List Ent) (h : MAt w bm bt tb lb c B L) (id : Int) (hw : (Lit.int .i64 id).wf = true) (k k2 : Kn) (ha : atL L id = some (0, k)) (out err : Int) (herr : err ≠ 0)
    (hC : ∀ W, Below w.heap.size w W → Calls Tryz.prog 64 #[k.val] W fun e w' => e = .returned (.tuple #[k2.val, .int .i64 out, .int .i64 err]) ∧ Below W.heap.size W w') :
    Calls Tryz.prog 43 #[.pointer (some ⟨bm, 0, none⟩), .int .i64 id, .int .i64 0, .func (.func 64) #[] #[]] w fun e w' => e = .returned (.tuple #[.int .i64 0, .int .i64 err]) ∧ Below w.heap.size w w' := by
  have H := Lib.hid h
  have m5 := h.1.cell 5
  have CC := Lib.hid (table_Cause w bt tb c.sess L h.2.1 id hw)
  unfold causeF at CC
  rw [ha] at CC
  dsimp only at CC
  have HL := Lib.hid (fun v ps => look_L ha (v := v) (ps := ps))
  have HK := Lib.hid (key_int id hw)
  have HC := Lib.hid hC
  have HA := Lib.hid ha
  have HW := Lib.hid hw
  have hd : (err != 0) = true := bne_iff_ne.2 herr
  clear h ha hw hC herr
  go_enter Tryz.func43, Tryz.ntmps43
  go_wp2_with (first
    | (go_at_call 39; refine (mod_none _ _ _ _ _ _ _ _ H.out).mono ?_; rintro e w' ⟨rfl, rfl⟩)
    | (go_at_call 40; refine CC.out.mono ?_; rintro e w1 ⟨rfl, hb1⟩; have HB1 := Lib.hid hb1; have H1 := Lib.hid (H.out.later hb1); have y6 := H1.out.1.cell 6; obtain ⟨v, ps, hrun, hv⟩ := H1.out.2.2.1.lookup (t := 54) keyed_int Tryz.underlying54 (z := Kn.zero.val) (Tryz.zeroValue72 _) (zd := .held Kn.zero.val) (zp := []) rfl HK.out; obtain rfl := HL.out _ _ hv; clear hb1 hv)
    | (go_at_call 64; refine (HC.out _ HB1.out).mono ?_; rintro e w2 ⟨rfl, hb2⟩; have HB2' := Lib.hid (HB1.out.trans (hb2.mono HB1.out.size)); have H2 := Lib.hid (H1.out.later hb2); clear hb2 hrun y6))
  go_returns
  exact ⟨rfl, HB2'.out.alloc HB2'.out.size _⟩
set_option maxRecDepth 100000 in
set_option maxHeartbeats 1000000 in
theorem ask_out_ok (w : World) (bm bt tb lb : Nat) (c : Cfg) (B : Int) (L : List Ent) (h : MAt w bm bt tb lb c B L) (id : Int) (hw : (Lit.int .i64 id).wf = true) (k k2 : Kn) (ha : atL L id = some (0, k)) (out : Int) (B2 : Int) (hB : B ≤ B2) (hB2 : B2 ≤ 2 ^ 45) (hk : KnOk c B2 k2)
    (hC : ∀ W, Below w.heap.size w W → Calls Tryz.prog 64 #[k.val] W fun e w' => e = .returned (.tuple #[k2.val, .int .i64 out, .int .i64 0]) ∧ Below W.heap.size W w') :
    Calls Tryz.prog 43 #[.pointer (some ⟨bm, 0, none⟩), .int .i64 id, .int .i64 0, .func (.func 64) #[] #[]] w fun e w' => e = .returned (.tuple #[.int .i64 out, .int .i64 0]) ∧ MAt w' bm bt tb lb c B2 (L.set (id - 1).toNat (0, k2)) ∧ Only [lb] w w' := by
  have H := Lib.hid h
  have m5 := h.1.cell 5
  have CC := Lib.hid (table_Cause w bt tb c.sess L h.2.1 id hw)
  unfold causeF at CC
  rw [ha] at CC
  dsimp only at CC
  have HL := Lib.hid (fun v ps => look_L ha (v := v) (ps := ps))
  have HK := Lib.hid (key_int id hw)
  have HC := Lib.hid hC
  have HA := Lib.hid ha
  have HW := Lib.hid hw
  have HKK := Lib.hid hk
  have HP := Lib.hid (set_L ha k2)
  have HB := Lib.hid hB
  have HB2 := Lib.hid hB2
  clear h ha hw hC hk hB hB2
  go_enter Tryz.func43, Tryz.ntmps43
  go_wp2_with (first
    | (go_at_call 39; refine (mod_none _ _ _ _ _ _ _ _ H.out).mono ?_; rintro e w' ⟨rfl, rfl⟩)
    | (go_at_call 40; refine CC.out.mono ?_; rintro e w1 ⟨rfl, hb1⟩; have HB1 := Lib.hid hb1; have H1 := Lib.hid (H.out.later hb1); have y6 := H1.out.1.cell 6; obtain ⟨v, ps, hrun, hv⟩ := H1.out.2.2.1.lookup (t := 54) keyed_int Tryz.underlying54 (z := Kn.zero.val) (Tryz.zeroValue72 _) (zd := .held Kn.zero.val) (zp := []) rfl HK.out; obtain rfl := HL.out _ _ hv; clear hb1 hv)
    | (go_at_call 64; refine (HC.out _ HB1.out).mono ?_; rintro e w2 ⟨rfl, hb2⟩; have HB2' := Lib.hid (HB1.out.trans (hb2.mono HB1.out.size)); have H2 := Lib.hid (H1.out.later hb2); clear hb2 hrun y6))
  have HS := Lib.hid (show Blk (w2.alloc (.cells #[.int .i64 k2.came, .bool k2.ended, .int .i64 k2.cause, .int .i64 k2.queued, .int .i64 k2.left, .int .i64 k2.free, .int .i64 k2.frames, .int .i64 k2.pics, .int .i64 k2.gone] 72)) bm 56 #[.int .i64 c.sess, .int .i64 c.frames, .int .i64 c.quota, .int .i64 c.room, .int .i64 c.slots, .pointer (some ⟨bt, 0, none⟩), .map (some lb)] ∧ Blk (w2.alloc (.cells #[.int .i64 k2.came, .bool k2.ended, .int .i64 k2.cause, .int .i64 k2.queued, .int .i64 k2.left, .int .i64 k2.free, .int .i64 k2.frames, .int .i64 k2.pics, .int .i64 k2.gone] 72)) w2.heap.size 72 #[.int .i64 k2.came, .bool k2.ended, .int .i64 k2.cause, .int .i64 k2.queued, .int .i64 k2.left, .int .i64 k2.free, .int .i64 k2.frames, .int .i64 k2.pics, .int .i64 k2.gone] from ⟨H2.out.1.alloc _, Blk.new _ _ _⟩)
  have H3 := Lib.hid (show MAt (w2.alloc (.cells #[.int .i64 k2.came, .bool k2.ended, .int .i64 k2.cause, .int .i64 k2.queued, .int .i64 k2.left, .int .i64 k2.free, .int .i64 k2.frames, .int .i64 k2.pics, .int .i64 k2.gone] 72)).drew bm bt tb lb c B L from H2.out.later (((Below.refl _ _).alloc (Nat.le_refl _) _).drew))
  have HO := Lib.hid (show Only [lb] w (w2.alloc (.cells #[.int .i64 k2.came, .bool k2.ended, .int .i64 k2.cause, .int .i64 k2.queued, .int .i64 k2.left, .int .i64 k2.free, .int .i64 k2.frames, .int .i64 k2.pics, .int .i64 k2.gone] 72)).drew from Only.of_below (HB2'.out.alloc HB2'.out.size _).drew)
  refine wp_region_plan2 (fun W => Blk W bm 56 #[.int .i64 c.sess, .int .i64 c.frames, .int .i64 c.quota, .int .i64 c.room, .int .i64 c.slots, .pointer (some ⟨bt, 0, none⟩), .map (some lb)] ∧ Blk W w2.heap.size 72 #[.int .i64 k2.came, .bool k2.ended, .int .i64 k2.cause, .int .i64 k2.queued, .int .i64 k2.left, .int .i64 k2.free, .int .i64 k2.frames, .int .i64 k2.pics, .int .i64 k2.gone]) 6 [(0, true), (1, true), (2, true), (3, true), (4, true), (5, true)] (by kernel_rfl) (by kernel_rfl) (fun _ _ d _ _ h => by cases d <;> exact h) (by decide) (by simp only [List.map_cons, List.map_nil, Array.getD_eq_getD_getElem?, List.getElem?_toArray, List.getElem?_cons_zero, List.getElem?_cons_succ, Option.getD_some]; rfl) (by simp only [List.map_cons, List.map_nil]; rfl) (HS.out) (fun PE hPE => ?_)
  refine plan_take (v := ?_) rfl (by rfl) ?_ ?_
  rotate_left
  · intro _ hSw; (try dsimp only at hSw); have y6 := hSw.1.cell 6; have z0 := hSw.2.cell 0; have z1 := hSw.2.cell 1; have z2 := hSw.2.cell 2; have z3 := hSw.2.cell 3; have z4 := hSw.2.cell 4; have z5 := hSw.2.cell 5; have z6 := hSw.2.cell 6; have z7 := hSw.2.cell 7; have z8 := hSw.2.cell 8; go_simp; (try with_reducible rfl)
  simp only [List.setIfInBounds_toArray, List.set_cons_zero, List.set_cons_succ]
  refine plan_take (v := ?_) rfl (by rfl) ?_ ?_
  rotate_left
  · intro _ hSw; (try dsimp only at hSw); have y6 := hSw.1.cell 6; have z0 := hSw.2.cell 0; have z1 := hSw.2.cell 1; have z2 := hSw.2.cell 2; have z3 := hSw.2.cell 3; have z4 := hSw.2.cell 4; have z5 := hSw.2.cell 5; have z6 := hSw.2.cell 6; have z7 := hSw.2.cell 7; have z8 := hSw.2.cell 8; go_simp; (try with_reducible rfl)
  simp only [List.setIfInBounds_toArray, List.set_cons_zero, List.set_cons_succ]
  refine plan_take (v := ?_) rfl (by rfl) ?_ ?_
  rotate_left
  · intro _ hSw; (try dsimp only at hSw); have y6 := hSw.1.cell 6; have z0 := hSw.2.cell 0; have z1 := hSw.2.cell 1; have z2 := hSw.2.cell 2; have z3 := hSw.2.cell 3; have z4 := hSw.2.cell 4; have z5 := hSw.2.cell 5; have z6 := hSw.2.cell 6; have z7 := hSw.2.cell 7; have z8 := hSw.2.cell 8; go_simp; (try with_reducible rfl)
  simp only [List.setIfInBounds_toArray, List.set_cons_zero, List.set_cons_succ]
  refine plan_take (v := ?_) rfl (by rfl) ?_ ?_
  rotate_left
  · intro _ hSw; (try dsimp only at hSw); have y6 := hSw.1.cell 6; have z0 := hSw.2.cell 0; have z1 := hSw.2.cell 1; have z2 := hSw.2.cell 2; have z3 := hSw.2.cell 3; have z4 := hSw.2.cell 4; have z5 := hSw.2.cell 5; have z6 := hSw.2.cell 6; have z7 := hSw.2.cell 7; have z8 := hSw.2.cell 8; go_simp; (try with_reducible rfl)
  simp only [List.setIfInBounds_toArray, List.set_cons_zero, List.set_cons_succ]
  refine plan_take (v := ?_) rfl (by rfl) ?_ ?_
  rotate_left
  · intro _ hSw; (try dsimp only at hSw); have y6 := hSw.1.cell 6; have z0 := hSw.2.cell 0; have z1 := hSw.2.cell 1; have z2 := hSw.2.cell 2; have z3 := hSw.2.cell 3; have z4 := hSw.2.cell 4; have z5 := hSw.2.cell 5; have z6 := hSw.2.cell 6; have z7 := hSw.2.cell 7; have z8 := hSw.2.cell 8; go_simp; (try with_reducible rfl)
  simp only [List.setIfInBounds_toArray, List.set_cons_zero, List.set_cons_succ]
  refine plan_take (v := ?_) rfl (by rfl) ?_ ?_
  rotate_left
  · intro _ hSw; (try dsimp only at hSw); have y6 := hSw.1.cell 6; have z0 := hSw.2.cell 0; have z1 := hSw.2.cell 1; have z2 := hSw.2.cell 2; have z3 := hSw.2.cell 3; have z4 := hSw.2.cell 4; have z5 := hSw.2.cell 5; have z6 := hSw.2.cell 6; have z7 := hSw.2.cell 7; have z8 := hSw.2.cell 8; go_simp; (try with_reducible rfl)
  simp only [List.setIfInBounds_toArray, List.set_cons_zero, List.set_cons_succ]
  (refine hPE _ _ ?_; simp only [List.drop_succ_cons, List.drop_zero]; clear hPE PE)
  generalize (w2.alloc (.cells #[.int .i64 k2.came, .bool k2.ended, .int .i64 k2.cause, .int .i64 k2.queued, .int .i64 k2.left, .int .i64 k2.free, .int .i64 k2.frames, .int .i64 k2.pics, .int .i64 k2.gone] 72)).drew = W at H3 HO ⊢
  go_wp2_with (at_mapUpdate; refine wpList_mapUpdate_in _ rfl _ _ _ 54 rfl 3 72 keyed_int Tryz.underlying54 heldR lb L.length _ rfl H3.out.2.2.1 (by have := H3.out.2.1.2.2.1; unfold maxLen; omega) (.int .i64 id) k2.val (.int .i64 id) rfl rfl HK.out (.held k2.val) [] rfl ?_; intro w5 hown5 hturn5; rw [HP.out] at hown5; have HO5 := Lib.hid hown5; have HU5 := Lib.hid hturn5; clear hown5 hturn5)
  go_returns
  have hO := HO.out.turned HU5.out (b := lb) (by simp)
  have hlt : TabAt w5 bt tb c.sess L := ⟨blk_turned H3.out.2.1.1 HU5.out, (Only.turned (Only.of_below (Below.refl _ _)) HU5.out (by simp : lb ∈ [lb])).own H3.out.2.1.2.1 (by simpa using H3.out.2.2.2.1), H3.out.2.1.2.2⟩
  exact ⟨rfl, MAt.stored (blk_turned H3.out.1 HU5.out) hlt HO5.out H.out HA.out HB.out HB2.out HKK.out, hO⟩
end Go.Proofs.YtklelheejopfmaaGreat
