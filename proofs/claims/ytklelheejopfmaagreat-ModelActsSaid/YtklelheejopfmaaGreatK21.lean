/- Drain, Drn -/
import Derived.Test.YtklelheejopfmaaGreatK20
namespace Go.Proofs.YtklelheejopfmaaGreat
open Go Go.RowKit Go.Maps
attribute [local go_sem] Oper.semAt_some
theorem set7_only {bs : List Nat} {w w' : World} {b : Nat} (h : Only bs w w') (hb : b ∈ bs ∨ w.heap.size ≤ b) (v0 v1 v2 v3 v4 v5 v6 : Value) : Only bs w (((((((w'.setCell ⟨b, 0, none⟩ v0).setCell ⟨b, 1, none⟩ v1).setCell ⟨b, 2, none⟩ v2).setCell ⟨b, 3, none⟩ v3).setCell ⟨b, 4, none⟩ v4).setCell ⟨b, 5, none⟩ v5).setCell ⟨b, 6, none⟩ v6) :=
  (((((((h.set (p := ⟨b, 0, none⟩) hb v0).set (p := ⟨b, 1, none⟩) hb v1).set (p := ⟨b, 2, none⟩) hb v2).set (p := ⟨b, 3, none⟩) hb v3).set (p := ⟨b, 4, none⟩) hb v4).set (p := ⟨b, 5, none⟩) hb v5).set (p := ⟨b, 6, none⟩) hb v6)
theorem MAt.far {w w' : World} {bm bt tb lb : Nat} {c : Cfg} {B : Int} {L : List Ent} {bs : List Nat} (h : MAt w bm bt tb lb c B L) (ho : Only bs w w') (h1 : bm ∉ bs) (h2 : bt ∉ bs) (h3 : tb ∉ bs) (h4 : lb ∉ bs) : MAt w' bm bt tb lb c B L :=
  ⟨ho.blk h.1 h1, h.2.1.only ho h2 h3, ho.own h.2.2.1 h4, h.2.2.2⟩
theorem lt_of_some {w : World} {a : Addr} {v : Value} (h : w.cell? a = some v) : a.block < w.heap.size := by
  rcases Nat.lt_or_ge a.block w.heap.size with hl | hl
  · exact hl
  · unfold World.cell? at h
    rw [Array.getElem?_eq_none hl] at h; cases h
abbrev zeroSt : Value := .agg #[.int .i64 0, .int .i64 0, .int .i64 0, .int .i64 0, .int .i64 0, .int .i64 0, .int .i64 0]
def AskW (w : World) : World := (w.alloc (.cells #[.int .i64 0, .int .i64 0, .int .i64 0, .int .i64 0, .int .i64 0, .int .i64 0, .int .i64 0] 35)).alloc (.cells #[.int .i64 0, .int .i64 0, .int .i64 0, .int .i64 0, .int .i64 0, .int .i64 0, .int .i64 0] 35)
theorem askW_facts (w : World) : Blk (AskW w) w.heap.size 35 #[.int .i64 0, .int .i64 0, .int .i64 0, .int .i64 0, .int .i64 0, .int .i64 0, .int .i64 0] ∧ Blk (AskW w) (w.heap.size + 1) 35 #[.int .i64 0, .int .i64 0, .int .i64 0, .int .i64 0, .int .i64 0, .int .i64 0, .int .i64 0] ∧ Below w.heap.size w (AskW w) :=
  ⟨(Blk.new _ _ _).alloc _, (Blk.new _ _ _).at_eq (World.size_alloc w _), ((Below.refl _ _).alloc (Nat.le_refl _) _).alloc (by simp) _⟩
set_option maxRecDepth 100000 in
theorem askS_nil (w : World) (id : Int) (fv : Value) : Calls Tryz.prog 46 #[.pointer none, .int .i64 id, zeroSt, fv] w fun e w' => e = .returned (.tuple #[zeroSt, .int .i64 1]) ∧ Below w.heap.size w w' := by
  have HB := Lib.hid (((Below.refl _ w).alloc (Nat.le_refl _) (.cells #[.int .i64 0, .int .i64 0, .int .i64 0, .int .i64 0, .int .i64 0, .int .i64 0, .int .i64 0] 35)).alloc (by simp) (.cells #[.int .i64 0, .int .i64 0, .int .i64 0, .int .i64 0, .int .i64 0, .int .i64 0, .int .i64 0] 35))
  go_enter Tryz.func46, Tryz.ntmps46
  go_wp2_with (go_at_call 39; refine (mod_none_nil _).mono ?_; rintro e w' ⟨rfl, rfl⟩)
  refine bodyPost_ret (by simp [results, Tryz.results46, go_sem]; try rfl) rfl ?_
  exact ⟨rfl, HB.out⟩
set_option maxRecDepth 100000 in
theorem askS_zero (w : World) (bm : Nat) (hz : w.cell? ⟨bm, 5, none⟩ = some (.pointer none)) (id : Int) (fv : Value) : Calls Tryz.prog 46 #[.pointer (some ⟨bm, 0, none⟩), .int .i64 id, zeroSt, fv] w fun e w' => e = .returned (.tuple #[zeroSt, .int .i64 1]) ∧ Below w.heap.size w w' := by
  have HZ := Lib.hid (show ((w.alloc (.cells #[.int .i64 0, .int .i64 0, .int .i64 0, .int .i64 0, .int .i64 0, .int .i64 0, .int .i64 0] 35)).alloc (.cells #[.int .i64 0, .int .i64 0, .int .i64 0, .int .i64 0, .int .i64 0, .int .i64 0, .int .i64 0] 35)).cell? ⟨bm, 5, none⟩ = some (.pointer none) from ((((Below.refl w.heap.size w).alloc (Nat.le_refl _) _).alloc (by simp) _).cell (lt_of_some hz)).trans hz)
  have HB := Lib.hid (((Below.refl _ w).alloc (Nat.le_refl _) (.cells #[.int .i64 0, .int .i64 0, .int .i64 0, .int .i64 0, .int .i64 0, .int .i64 0, .int .i64 0] 35)).alloc (by simp) (.cells #[.int .i64 0, .int .i64 0, .int .i64 0, .int .i64 0, .int .i64 0, .int .i64 0, .int .i64 0] 35))
  clear hz
  go_enter Tryz.func46, Tryz.ntmps46
  go_wp2_with (go_at_call 39; refine (mod_none_zero _ _ HZ.out).mono ?_; rintro e w' ⟨rfl, rfl⟩)
  refine bodyPost_ret (by simp [results, Tryz.results46, go_sem]; try rfl) rfl ?_
  exact ⟨rfl, HB.out⟩
set_option maxRecDepth 100000 in
set_option maxHeartbeats 1000000 in
theorem askS_why (w : World) (bm bt tb lb : Nat) (c : Cfg) (B : Int) (L : List Ent) (h : MAt w bm bt tb lb c B L) (id : Int) (hw : (Lit.int .i64 id).wf = true) (fv : Value) (hy : whyF L id ≠ 0) :
    Calls Tryz.prog 46 #[.pointer (some ⟨bm, 0, none⟩), .int .i64 id, zeroSt, fv] w fun e w' => e = .returned (.tuple #[zeroSt, .int .i64 (whyF L id)]) ∧ Below w.heap.size w w' := by
  have H0 := askW_facts w
  have HB0 := Lib.hid H0.2.2
  have HM := Lib.hid (h.later H0.2.2)
  have m5 := HM.out.1.cell 5
  have HR := Lib.hid H0.2.1
  have HN := Lib.hid H0.1
  have HAW := Lib.hid (show (w.alloc (.cells #[.int .i64 0, .int .i64 0, .int .i64 0, .int .i64 0, .int .i64 0, .int .i64 0, .int .i64 0] 35)).alloc (.cells #[.int .i64 0, .int .i64 0, .int .i64 0, .int .i64 0, .int .i64 0, .int .i64 0, .int .i64 0] 35) = AskW w from rfl)
  have CC := Lib.hid (table_Cause _ bt tb c.sess L HM.out.2.1 id hw)
  unfold causeF at CC
  unfold whyF at hy ⊢
  cases ha : atL L id with
  | none =>
    rw [ha] at CC hy
    dsimp only at CC hy ⊢
    clear h hy ha hw H0
    go_enter Tryz.func46, Tryz.ntmps46
    go_wp2_with fail
    rw [HAW.out]
    go_wp2_with (first
      | (go_at_call 39; refine (mod_none _ _ _ _ _ _ _ _ HM.out).mono ?_; rintro e w' ⟨rfl, rfl⟩)
      | (go_at_call 40; refine CC.out.mono ?_; rintro e w1 ⟨rfl, hb1⟩; have hr := HR.out.below hb1 HR.out.lt; have hn := HN.out.below hb1 HN.out.lt; have r0 := hr.cell 0; have r1 := hr.cell 1; have r2 := hr.cell 2; have r3 := hr.cell 3; have r4 := hr.cell 4; have r5 := hr.cell 5; have r6 := hr.cell 6; have f0 := hr.frozen 0; have f1 := hr.frozen 1; have f2 := hr.frozen 2; have f3 := hr.frozen 3; have f4 := hr.frozen 4; have f5 := hr.frozen 5; have f6 := hr.frozen 6; have n0 := hn.cell 0; have n1 := hn.cell 1; have n2 := hn.cell 2; have n3 := hn.cell 3; have n4 := hn.cell 4; have n5 := hn.cell 5; have n6 := hn.cell 6; have HR1 := Lib.hid hr; have HB1 := Lib.hid (HB0.out.trans (hb1.mono HB0.out.size)); clear hr hn hb1))
    have hZ := set7_blk HR1.out (.int .i64 0) (.int .i64 0) (.int .i64 0) (.int .i64 0) (.int .i64 0) (.int .i64 0) (.int .i64 0)
    have z0 := hZ.cell 0; have z1 := hZ.cell 1; have z2 := hZ.cell 2; have z3 := hZ.cell 3; have z4 := hZ.cell 4; have z5 := hZ.cell 5; have z6 := hZ.cell 6
    refine bodyPost_ret (by simp [results, Tryz.results46, go_sem, z0, z1, z2, z3, z4, z5, z6]; try rfl) rfl ?_
    exact ⟨rfl, set7_below HB1.out (Nat.le_succ _) _ _ _ _ _ _ _⟩
  | some x =>
    obtain ⟨d, k⟩ := x
    rw [ha] at CC hy
    dsimp only at CC hy ⊢
    have hd : (d != 0) = true := bne_iff_ne.2 hy
    clear h hy ha hw H0
    go_enter Tryz.func46, Tryz.ntmps46
    go_wp2_with fail
    rw [HAW.out]
    go_wp2_with (first
      | (go_at_call 39; refine (mod_none _ _ _ _ _ _ _ _ HM.out).mono ?_; rintro e w' ⟨rfl, rfl⟩)
      | (go_at_call 40; refine CC.out.mono ?_; rintro e w1 ⟨rfl, hb1⟩; have hr := HR.out.below hb1 HR.out.lt; have hn := HN.out.below hb1 HN.out.lt; have r0 := hr.cell 0; have r1 := hr.cell 1; have r2 := hr.cell 2; have r3 := hr.cell 3; have r4 := hr.cell 4; have r5 := hr.cell 5; have r6 := hr.cell 6; have f0 := hr.frozen 0; have f1 := hr.frozen 1; have f2 := hr.frozen 2; have f3 := hr.frozen 3; have f4 := hr.frozen 4; have f5 := hr.frozen 5; have f6 := hr.frozen 6; have n0 := hn.cell 0; have n1 := hn.cell 1; have n2 := hn.cell 2; have n3 := hn.cell 3; have n4 := hn.cell 4; have n5 := hn.cell 5; have n6 := hn.cell 6; have HR1 := Lib.hid hr; have HB1 := Lib.hid (HB0.out.trans (hb1.mono HB0.out.size)); clear hr hn hb1))
    have hZ := set7_blk HR1.out (.int .i64 0) (.int .i64 0) (.int .i64 0) (.int .i64 0) (.int .i64 0) (.int .i64 0) (.int .i64 0)
    have z0 := hZ.cell 0; have z1 := hZ.cell 1; have z2 := hZ.cell 2; have z3 := hZ.cell 3; have z4 := hZ.cell 4; have z5 := hZ.cell 5; have z6 := hZ.cell 6
    refine bodyPost_ret (by simp [results, Tryz.results46, go_sem, z0, z1, z2, z3, z4, z5, z6]; try rfl) rfl ?_
    exact ⟨rfl, set7_below HB1.out (Nat.le_succ _) _ _ _ _ _ _ _⟩
set_option maxRecDepth 100000 in
set_option maxHeartbeats 2000000 in
theorem askS_no (w : World) (bm bt tb lb : Nat) (c : Cfg) (B : Int) (L : List Ent) (h : MAt w bm bt tb lb c B L) (id : Int) (hw : (Lit.int .i64 id).wf = true) (k k2 s : Kn) (ha : atL L id = some (0, k)) (err : Int) (herr : err ≠ 0)
    (hC : ∀ W, Below w.heap.size w W → Calls Tryz.prog 47 #[k.val] W fun e w' => e = .returned (.tuple #[k2.val, s.seen, .int .i64 err]) ∧ Below W.heap.size W w') :
    Calls Tryz.prog 46 #[.pointer (some ⟨bm, 0, none⟩), .int .i64 id, zeroSt, .func (.func 47) #[] #[]] w fun e w' => e = .returned (.tuple #[zeroSt, .int .i64 err]) ∧ Below w.heap.size w w' := by
  have H0 := askW_facts w
  have HB0 := Lib.hid H0.2.2
  have HM := Lib.hid (h.later H0.2.2)
  have m5 := HM.out.1.cell 5
  have HR := Lib.hid H0.2.1
  have HN := Lib.hid H0.1
  have HAW := Lib.hid (show (w.alloc (.cells #[.int .i64 0, .int .i64 0, .int .i64 0, .int .i64 0, .int .i64 0, .int .i64 0, .int .i64 0] 35)).alloc (.cells #[.int .i64 0, .int .i64 0, .int .i64 0, .int .i64 0, .int .i64 0, .int .i64 0, .int .i64 0] 35) = AskW w from rfl)
  have CC := Lib.hid (table_Cause _ bt tb c.sess L HM.out.2.1 id hw)
  unfold causeF at CC
  rw [ha] at CC
  dsimp only at CC
  have HL := Lib.hid (fun v ps => look_L ha (v := v) (ps := ps))
  have HK := Lib.hid (key_int id hw)
  have HC := Lib.hid hC
  have H := Lib.hid h
  have hd : (err != 0) = true := bne_iff_ne.2 herr
  clear h ha hw hC herr H0
  go_enter Tryz.func46, Tryz.ntmps46
  go_wp2_with fail
  rw [HAW.out]
  go_wp2_with (first
    | (go_at_call 39; refine (mod_none _ _ _ _ _ _ _ _ HM.out).mono ?_; rintro e w' ⟨rfl, rfl⟩)
    | (go_at_call 40; refine CC.out.mono ?_; rintro e w1 ⟨rfl, hb1⟩; have HB1 := Lib.hid (HB0.out.trans (hb1.mono HB0.out.size)); have H1 := Lib.hid (HM.out.later hb1); have y6 := H1.out.1.cell 6; have HR1 := Lib.hid (HR.out.below hb1 HR.out.lt); have HN1 := Lib.hid (HN.out.below hb1 HN.out.lt); obtain ⟨v, ps, hrun, hv⟩ := H1.out.2.2.1.lookup (t := 54) keyed_int Tryz.underlying54 (z := Kn.zero.val) (Tryz.zeroValue72 _) (zd := .held Kn.zero.val) (zp := []) rfl HK.out; obtain rfl := HL.out _ _ hv; clear hb1 hv)
    | (go_at_call 47; refine (HC.out _ HB1.out).mono ?_; rintro e w2 ⟨rfl, hb2⟩; have HB2' := Lib.hid (HB1.out.trans (hb2.mono HB1.out.size)); have H2 := Lib.hid (H1.out.later hb2); have HR2 := Lib.hid (HR1.out.below hb2 HR1.out.lt); have HN2 := Lib.hid (HN1.out.below hb2 HN1.out.lt); have r0 := fun o1 o2 => ((HR2.out.alloc o1).alloc o2).cell 0; have r1 := fun o1 o2 => ((HR2.out.alloc o1).alloc o2).cell 1; have r2 := fun o1 o2 => ((HR2.out.alloc o1).alloc o2).cell 2; have r3 := fun o1 o2 => ((HR2.out.alloc o1).alloc o2).cell 3; have r4 := fun o1 o2 => ((HR2.out.alloc o1).alloc o2).cell 4; have r5 := fun o1 o2 => ((HR2.out.alloc o1).alloc o2).cell 5; have r6 := fun o1 o2 => ((HR2.out.alloc o1).alloc o2).cell 6; have f0 := fun o1 o2 => ((HR2.out.alloc o1).alloc o2).frozen 0; have f1 := fun o1 o2 => ((HR2.out.alloc o1).alloc o2).frozen 1; have f2 := fun o1 o2 => ((HR2.out.alloc o1).alloc o2).frozen 2; have f3 := fun o1 o2 => ((HR2.out.alloc o1).alloc o2).frozen 3; have f4 := fun o1 o2 => ((HR2.out.alloc o1).alloc o2).frozen 4; have f5 := fun o1 o2 => ((HR2.out.alloc o1).alloc o2).frozen 5; have f6 := fun o1 o2 => ((HR2.out.alloc o1).alloc o2).frozen 6; have n0 := fun o1 o2 => ((HN2.out.alloc o1).alloc o2).cell 0; have n1 := fun o1 o2 => ((HN2.out.alloc o1).alloc o2).cell 1; have n2 := fun o1 o2 => ((HN2.out.alloc o1).alloc o2).cell 2; have n3 := fun o1 o2 => ((HN2.out.alloc o1).alloc o2).cell 3; have n4 := fun o1 o2 => ((HN2.out.alloc o1).alloc o2).cell 4; have n5 := fun o1 o2 => ((HN2.out.alloc o1).alloc o2).cell 5; have n6 := fun o1 o2 => ((HN2.out.alloc o1).alloc o2).cell 6; clear hb2 hrun y6))
  have hZ := set7_blk ((HR2.out.alloc (.cells #[.int .i64 k2.came, .bool k2.ended, .int .i64 k2.cause, .int .i64 k2.queued, .int .i64 k2.left, .int .i64 k2.free, .int .i64 k2.frames, .int .i64 k2.pics, .int .i64 k2.gone] 72)).alloc (.cells #[.int .i64 s.cause, .int .i64 s.queued, .int .i64 s.left, .int .i64 s.free, .int .i64 s.frames, .int .i64 s.pics, .int .i64 s.gone] 35)) (.int .i64 0) (.int .i64 0) (.int .i64 0) (.int .i64 0) (.int .i64 0) (.int .i64 0) (.int .i64 0)
  have z0 := hZ.cell 0; have z1 := hZ.cell 1; have z2 := hZ.cell 2; have z3 := hZ.cell 3; have z4 := hZ.cell 4; have z5 := hZ.cell 5; have z6 := hZ.cell 6
  refine bodyPost_ret (by simp [results, Tryz.results46, go_sem, z0, z1, z2, z3, z4, z5, z6]; try rfl) rfl ?_
  exact ⟨rfl, set7_below ((HB2'.out.alloc HB2'.out.size _).alloc (by rw [World.size_alloc]; have := HB2'.out.size; omega) _) (Nat.le_succ _) _ _ _ _ _ _ _⟩
set_option maxRecDepth 100000 in
set_option maxHeartbeats 2000000 in
theorem askS_ok (w : World) (bm bt tb lb : Nat) (c : Cfg) (B : Int) (L : List Ent) (h : MAt w bm bt tb lb c B L) (id : Int) (hw : (Lit.int .i64 id).wf = true) (k k2 s : Kn) (ha : atL L id = some (0, k)) (B2 : Int) (hB : B ≤ B2) (hB2 : B2 ≤ 2 ^ 45) (hk : KnOk c B2 k2)
    (hC : ∀ W, Below w.heap.size w W → Calls Tryz.prog 47 #[k.val] W fun e w' => e = .returned (.tuple #[k2.val, s.seen, .int .i64 0]) ∧ Below W.heap.size W w') :
    Calls Tryz.prog 46 #[.pointer (some ⟨bm, 0, none⟩), .int .i64 id, zeroSt, .func (.func 47) #[] #[]] w fun e w' => e = .returned (.tuple #[s.seen, .int .i64 0]) ∧ MAt w' bm bt tb lb c B2 (L.set (id - 1).toNat (0, k2)) ∧ Only [lb] w w' := by
  have H0 := askW_facts w
  have HB0 := Lib.hid H0.2.2
  have HM := Lib.hid (h.later H0.2.2)
  have m5 := HM.out.1.cell 5
  have HR := Lib.hid H0.2.1
  have HN := Lib.hid H0.1
  have HAW := Lib.hid (show (w.alloc (.cells #[.int .i64 0, .int .i64 0, .int .i64 0, .int .i64 0, .int .i64 0, .int .i64 0, .int .i64 0] 35)).alloc (.cells #[.int .i64 0, .int .i64 0, .int .i64 0, .int .i64 0, .int .i64 0, .int .i64 0, .int .i64 0] 35) = AskW w from rfl)
  have CC := Lib.hid (table_Cause _ bt tb c.sess L HM.out.2.1 id hw)
  unfold causeF at CC
  rw [ha] at CC
  dsimp only at CC
  have HL := Lib.hid (fun v ps => look_L ha (v := v) (ps := ps))
  have HK := Lib.hid (key_int id hw)
  have HC := Lib.hid hC
  have H := Lib.hid h
  have HKK := Lib.hid hk
  have HP := Lib.hid (set_L ha k2)
  have HBB := Lib.hid hB
  have HB2 := Lib.hid hB2
  have HA := Lib.hid ha
  clear h ha hw hC hk hB hB2 H0
  go_enter Tryz.func46, Tryz.ntmps46
  go_wp2_with fail
  rw [HAW.out]
  go_wp2_with (first
    | (go_at_call 39; refine (mod_none _ _ _ _ _ _ _ _ HM.out).mono ?_; rintro e w' ⟨rfl, rfl⟩)
    | (go_at_call 40; refine CC.out.mono ?_; rintro e w1 ⟨rfl, hb1⟩; have HB1 := Lib.hid (HB0.out.trans (hb1.mono HB0.out.size)); have H1 := Lib.hid (HM.out.later hb1); have y6 := H1.out.1.cell 6; have HR1 := Lib.hid (HR.out.below hb1 HR.out.lt); have HN1 := Lib.hid (HN.out.below hb1 HN.out.lt); obtain ⟨v, ps, hrun, hv⟩ := H1.out.2.2.1.lookup (t := 54) keyed_int Tryz.underlying54 (z := Kn.zero.val) (Tryz.zeroValue72 _) (zd := .held Kn.zero.val) (zp := []) rfl HK.out; obtain rfl := HL.out _ _ hv; clear hb1 hv)
    | (go_at_call 47; refine (HC.out _ HB1.out).mono ?_; rintro e w2 ⟨rfl, hb2⟩; have HB2' := Lib.hid (HB1.out.trans (hb2.mono HB1.out.size)); have H2 := Lib.hid (H1.out.later hb2); have HR2 := Lib.hid (HR1.out.below hb2 HR1.out.lt); have HN2 := Lib.hid (HN1.out.below hb2 HN1.out.lt); clear hb2 hrun y6))
  have HS := Lib.hid (show Blk ((w2.alloc (.cells #[.int .i64 k2.came, .bool k2.ended, .int .i64 k2.cause, .int .i64 k2.queued, .int .i64 k2.left, .int .i64 k2.free, .int .i64 k2.frames, .int .i64 k2.pics, .int .i64 k2.gone] 72)).alloc (.cells #[.int .i64 s.cause, .int .i64 s.queued, .int .i64 s.left, .int .i64 s.free, .int .i64 s.frames, .int .i64 s.pics, .int .i64 s.gone] 35)) bm 56 #[.int .i64 c.sess, .int .i64 c.frames, .int .i64 c.quota, .int .i64 c.room, .int .i64 c.slots, .pointer (some ⟨bt, 0, none⟩), .map (some lb)] ∧ Blk ((w2.alloc (.cells #[.int .i64 k2.came, .bool k2.ended, .int .i64 k2.cause, .int .i64 k2.queued, .int .i64 k2.left, .int .i64 k2.free, .int .i64 k2.frames, .int .i64 k2.pics, .int .i64 k2.gone] 72)).alloc (.cells #[.int .i64 s.cause, .int .i64 s.queued, .int .i64 s.left, .int .i64 s.free, .int .i64 s.frames, .int .i64 s.pics, .int .i64 s.gone] 35)) w2.heap.size 72 #[.int .i64 k2.came, .bool k2.ended, .int .i64 k2.cause, .int .i64 k2.queued, .int .i64 k2.left, .int .i64 k2.free, .int .i64 k2.frames, .int .i64 k2.pics, .int .i64 k2.gone] from ⟨(H2.out.1.alloc _).alloc _, (Blk.new _ _ _).alloc _⟩)
  have hb3 : Below w2.heap.size w2 ((w2.alloc (.cells #[.int .i64 k2.came, .bool k2.ended, .int .i64 k2.cause, .int .i64 k2.queued, .int .i64 k2.left, .int .i64 k2.free, .int .i64 k2.frames, .int .i64 k2.pics, .int .i64 k2.gone] 72)).alloc (.cells #[.int .i64 s.cause, .int .i64 s.queued, .int .i64 s.left, .int .i64 s.free, .int .i64 s.frames, .int .i64 s.pics, .int .i64 s.gone] 35)) := ((Below.refl _ _).alloc (Nat.le_refl _) _).alloc (by simp) _
  have H3 := Lib.hid (show MAt ((w2.alloc (.cells #[.int .i64 k2.came, .bool k2.ended, .int .i64 k2.cause, .int .i64 k2.queued, .int .i64 k2.left, .int .i64 k2.free, .int .i64 k2.frames, .int .i64 k2.pics, .int .i64 k2.gone] 72)).alloc (.cells #[.int .i64 s.cause, .int .i64 s.queued, .int .i64 s.left, .int .i64 s.free, .int .i64 s.frames, .int .i64 s.pics, .int .i64 s.gone] 35)).drew bm bt tb lb c B L from H2.out.later hb3.drew)
  have HO := Lib.hid (show Below w.heap.size w ((w2.alloc (.cells #[.int .i64 k2.came, .bool k2.ended, .int .i64 k2.cause, .int .i64 k2.queued, .int .i64 k2.left, .int .i64 k2.free, .int .i64 k2.frames, .int .i64 k2.pics, .int .i64 k2.gone] 72)).alloc (.cells #[.int .i64 s.cause, .int .i64 s.queued, .int .i64 s.left, .int .i64 s.free, .int .i64 s.frames, .int .i64 s.pics, .int .i64 s.gone] 35)).drew from (HB2'.out.trans (hb3.mono HB2'.out.size)).drew)
  have HR3 := Lib.hid (show Blk ((w2.alloc (.cells #[.int .i64 k2.came, .bool k2.ended, .int .i64 k2.cause, .int .i64 k2.queued, .int .i64 k2.left, .int .i64 k2.free, .int .i64 k2.frames, .int .i64 k2.pics, .int .i64 k2.gone] 72)).alloc (.cells #[.int .i64 s.cause, .int .i64 s.queued, .int .i64 s.left, .int .i64 s.free, .int .i64 s.frames, .int .i64 s.pics, .int .i64 s.gone] 35)).drew (w.heap.size + 1) 35 #[.int .i64 0, .int .i64 0, .int .i64 0, .int .i64 0, .int .i64 0, .int .i64 0, .int .i64 0] from (HR2.out.alloc _).alloc _)
  have HS3 := Lib.hid (show Blk ((w2.alloc (.cells #[.int .i64 k2.came, .bool k2.ended, .int .i64 k2.cause, .int .i64 k2.queued, .int .i64 k2.left, .int .i64 k2.free, .int .i64 k2.frames, .int .i64 k2.pics, .int .i64 k2.gone] 72)).alloc (.cells #[.int .i64 s.cause, .int .i64 s.queued, .int .i64 s.left, .int .i64 s.free, .int .i64 s.frames, .int .i64 s.pics, .int .i64 s.gone] 35)).drew (w2.heap.size + 1) 35 #[.int .i64 s.cause, .int .i64 s.queued, .int .i64 s.left, .int .i64 s.free, .int .i64 s.frames, .int .i64 s.pics, .int .i64 s.gone] from (Blk.new _ _ _).at_eq (World.size_alloc _ _))
  clear hb3
  refine wp_region_plan2 (fun W => Blk W bm 56 #[.int .i64 c.sess, .int .i64 c.frames, .int .i64 c.quota, .int .i64 c.room, .int .i64 c.slots, .pointer (some ⟨bt, 0, none⟩), .map (some lb)] ∧ Blk W w2.heap.size 72 #[.int .i64 k2.came, .bool k2.ended, .int .i64 k2.cause, .int .i64 k2.queued, .int .i64 k2.left, .int .i64 k2.free, .int .i64 k2.frames, .int .i64 k2.pics, .int .i64 k2.gone]) 6 [(0, true), (1, true), (2, true), (3, true), (4, true), (5, true)] (by kernel_rfl) (by kernel_rfl) (fun _ _ d _ _ h => by cases d <;> exact h) (by decide) (by simp only [List.map_cons, List.map_nil, Array.getD_eq_getD_getElem?, List.getElem?_toArray, List.getElem?_cons_zero, List.getElem?_cons_succ, Option.getD_some]; rfl) (by simp only [List.map_cons, List.map_nil]; rfl) (HS.out) (fun PE hPE => ?_)
  refine plan_take (v := ?_) rfl (by rfl) ?_ ?_
  rotate_left
  · intro _ hSw; (try dsimp only at hSw); have y6 := hSw.1.cell 6; have z0 := hSw.2.cell 0; have z1 := hSw.2.cell 1; have z2 := hSw.2.cell 2; have z3 := hSw.2.cell 3; have z4 := hSw.2.cell 4; have z5 := hSw.2.cell 5; have z6 := hSw.2.cell 6; have z7 := hSw.2.cell 7; have z8 := hSw.2.cell 8; go_simp; (try with_reducible rfl)
  simp only [List.setIfInBounds_toArray, List.set_cons_zero, List.set_cons_succ]
  refine plan_take (v := ?_) rfl (by rfl) ?_ ?_
  rotate_left
  · intro _ hSw; (try dsimp only at hSw); have y6 := hSw.1.cell 6; have z0 := hSw.2.cell 0; have z1 := hSw.2.cell 1; have z2 := hSw.2.cell 2; have z3 := hSw.2.cell 3; have z4 := hSw.2.cell 4; have z5 := hSw.2.cell 5; have z6 := hSw.2.cell 6; have z7 := hSw.2.cell 7; have z8 := hSw.2.cell 8; go_simp; (try with_reducible rfl)
  simp only [List.setIfInBounds_toArray, List.set_cons_zero, List.set_cons_succ]
  refine plan_take (v := ?_) rfl (by rfl) ?_ ?_
  rotate_left
  · intro _ hSw; (try dsimp only at hSw); have y6 := hSw.1.cell 6; have z0 := hSw.2.cell 0; have z1 := hSw.2.cell 1; have z2 := hSw.2.cell 2; have z3 := hSw.2.cell 3; have z4 := hSw.2.cell 4; have z5 := hSw.2.cell 5; have z6 := hSw.2.cell 6; have z7 := hSw.2.cell 7; have z8 := hSw.2.cell 8; go_simp; (try with_reducible rfl)
  simp only [List.setIfInBounds_toArray, List.set_cons_zero, List.set_cons_succ]
  refine plan_take (v := ?_) rfl (by rfl) ?_ ?_
  rotate_left
  · intro _ hSw; (try dsimp only at hSw); have y6 := hSw.1.cell 6; have z0 := hSw.2.cell 0; have z1 := hSw.2.cell 1; have z2 := hSw.2.cell 2; have z3 := hSw.2.cell 3; have z4 := hSw.2.cell 4; have z5 := hSw.2.cell 5; have z6 := hSw.2.cell 6; have z7 := hSw.2.cell 7; have z8 := hSw.2.cell 8; go_simp; (try with_reducible rfl)
  simp only [List.setIfInBounds_toArray, List.set_cons_zero, List.set_cons_succ]
  refine plan_take (v := ?_) rfl (by rfl) ?_ ?_
  rotate_left
  · intro _ hSw; (try dsimp only at hSw); have y6 := hSw.1.cell 6; have z0 := hSw.2.cell 0; have z1 := hSw.2.cell 1; have z2 := hSw.2.cell 2; have z3 := hSw.2.cell 3; have z4 := hSw.2.cell 4; have z5 := hSw.2.cell 5; have z6 := hSw.2.cell 6; have z7 := hSw.2.cell 7; have z8 := hSw.2.cell 8; go_simp; (try with_reducible rfl)
  simp only [List.setIfInBounds_toArray, List.set_cons_zero, List.set_cons_succ]
  refine plan_take (v := ?_) rfl (by rfl) ?_ ?_
  rotate_left
  · intro _ hSw; (try dsimp only at hSw); have y6 := hSw.1.cell 6; have z0 := hSw.2.cell 0; have z1 := hSw.2.cell 1; have z2 := hSw.2.cell 2; have z3 := hSw.2.cell 3; have z4 := hSw.2.cell 4; have z5 := hSw.2.cell 5; have z6 := hSw.2.cell 6; have z7 := hSw.2.cell 7; have z8 := hSw.2.cell 8; go_simp; (try with_reducible rfl)
  simp only [List.setIfInBounds_toArray, List.set_cons_zero, List.set_cons_succ]
  (refine hPE _ _ ?_; simp only [List.drop_succ_cons, List.drop_zero]; clear hPE PE)
  generalize ((w2.alloc (.cells #[.int .i64 k2.came, .bool k2.ended, .int .i64 k2.cause, .int .i64 k2.queued, .int .i64 k2.left, .int .i64 k2.free, .int .i64 k2.frames, .int .i64 k2.pics, .int .i64 k2.gone] 72)).alloc (.cells #[.int .i64 s.cause, .int .i64 s.queued, .int .i64 s.left, .int .i64 s.free, .int .i64 s.frames, .int .i64 s.pics, .int .i64 s.gone] 35)).drew = W at H3 HO HR3 HS3 ⊢
  go_wp2_with (at_mapUpdate; refine wpList_mapUpdate_in _ rfl _ _ _ 54 rfl 3 72 keyed_int Tryz.underlying54 heldR lb L.length _ rfl H3.out.2.2.1 (by have := H3.out.2.1.2.2.1; unfold maxLen; omega) (.int .i64 id) k2.val (.int .i64 id) rfl rfl HK.out (.held k2.val) [] rfl ?_; intro w5 hown5 hturn5; rw [HP.out] at hown5; have hr := blk_turned HR3.out hturn5; have hs := blk_turned HS3.out hturn5; have r0 := hr.cell 0; have r1 := hr.cell 1; have r2 := hr.cell 2; have r3 := hr.cell 3; have r4 := hr.cell 4; have r5 := hr.cell 5; have r6 := hr.cell 6; have f0 := hr.frozen 0; have f1 := hr.frozen 1; have f2 := hr.frozen 2; have f3 := hr.frozen 3; have f4 := hr.frozen 4; have f5 := hr.frozen 5; have f6 := hr.frozen 6; have s0 := hs.cell 0; have s1 := hs.cell 1; have s2 := hs.cell 2; have s3 := hs.cell 3; have s4 := hs.cell 4; have s5 := hs.cell 5; have s6 := hs.cell 6; have HR5 := Lib.hid hr; have HO5 := Lib.hid hown5; have HU5 := Lib.hid hturn5; clear hown5 hturn5 hr hs)
  have hlt : TabAt w5 bt tb c.sess L := ⟨blk_turned H3.out.2.1.1 HU5.out, (Only.turned (Only.of_below (Below.refl _ _)) HU5.out (by simp : lb ∈ [lb])).own H3.out.2.1.2.1 (by simpa using H3.out.2.2.2.1), H3.out.2.1.2.2⟩
  have HM5 := Lib.hid (MAt.stored (blk_turned H3.out.1 HU5.out) hlt HO5.out H.out HA.out HBB.out HB2.out HKK.out)
  have HB5 := Lib.hid ((Only.of_below HO.out (bs := [lb])).turned HU5.out (b := lb) (by simp))
  have hZ := set7_blk HR5.out (.int .i64 s.cause) (.int .i64 s.queued) (.int .i64 s.left) (.int .i64 s.free) (.int .i64 s.frames) (.int .i64 s.pics) (.int .i64 s.gone)
  have z0 := hZ.cell 0; have z1 := hZ.cell 1; have z2 := hZ.cell 2; have z3 := hZ.cell 3; have z4 := hZ.cell 4; have z5 := hZ.cell 5; have z6 := hZ.cell 6
  refine bodyPost_ret (by simp [results, Tryz.results46, go_sem, z0, z1, z2, z3, z4, z5, z6]; try rfl) rfl ?_
  refine ⟨rfl, ?_, set7_only HB5.out (.inr (Nat.le_succ _)) _ _ _ _ _ _ _⟩
  have hO2 := set7_only (Only.of_below (Below.refl w5.heap.size w5) (bs := [w.heap.size + 1])) (b := w.heap.size + 1) (.inl (by simp)) (.int .i64 s.cause) (.int .i64 s.queued) (.int .i64 s.left) (.int .i64 s.free) (.int .i64 s.frames) (.int .i64 s.pics) (.int .i64 s.gone)
  have hbt : bt ≠ w.heap.size + 1 := fun e => by have := H.out.2.1.1.lt; omega
  have htb : tb ≠ w.heap.size + 1 := fun e => by have := H.out.2.1.2.1.lt; omega
  have hlb : lb ≠ w.heap.size + 1 := fun e => by have := H.out.2.2.1.lt; omega
  have hbm : bm ≠ w.heap.size + 1 := fun e => by have := H.out.1.lt; omega
  exact HM5.out.far hO2 (by simpa using hbm) (by simpa using hbt) (by simpa using htb) (by simpa using hlb)
end Go.Proofs.YtklelheejopfmaaGreat
namespace Go.Proofs.YtklelheejopfmaaGreat
open Go Go.RowKit Go.Maps
attribute [local go_sem] Oper.semAt_some
def drainL (L : List Ent) (id : Int) : Int × List Ent := match atL L id with
  | none => (18, L)
  | some x => if x.1 ≠ 0 then (x.1, L) else if (drainK x.2).1 ≠ 0 then ((drainK x.2).1, L) else if 0 < x.2.queued then (0, L.set (id - 1).toNat (0, (drainK x.2).2.1)) else (x.2.cause, L.set (id - 1).toNat (x.2.cause, (drainK x.2).2.1))
theorem drainL_why {L : List Ent} {id : Int} (h : whyF L id ≠ 0) : drainL L id = (whyF L id, L) := by
  unfold drainL
  unfold whyF at h ⊢
  cases ha : atL L id with
  | none => rfl
  | some x => rw [ha] at h; dsimp only at h ⊢; rw [if_pos h]
theorem drain_kn {c : Cfg} {B : Int} {k : Kn} (h : KnOk c B k) : KnOk c B (drainK k).2.1 := by
  unfold drainK
  split
  · exact h
  · obtain ⟨h1, h2, h3, h4, h5, h6, h7, h8, h9, h10⟩ := h
    exact ⟨h1, h2, h3, h4, h5, h6, h7, by show 0 ≤ max (k.queued - 1) 0; omega, h9, h10⟩
theorem at_set {L : List Ent} {id : Int} {x : Ent} (h : atL L id = some x) (y : Ent) : atL (L.set (id - 1).toNat y) id = some y := by
  have h1 := atL_wf h
  unfold atL
  rw [if_pos h1.1, List.getElem?_set]
  simp; omega
set_option maxRecDepth 100000 in
set_option maxHeartbeats 1000000 in
theorem mod_Drain (w : World) (bm bt tb lb : Nat) (c : Cfg) (B : Int) (L : List Ent) (h : MAt w bm bt tb lb c B L) (hq : ∀ x ∈ L, x.2.queued ≤ 9223372036854775807) (id : Int) (hw : (Lit.int .i64 id).wf = true) :
    Calls Tryz.prog 24 #[.pointer (some ⟨bm, 0, none⟩), .int .i64 id] w fun e w' => e = .returned (.int .i64 (drainL L id).1) ∧ MAt w' bm bt tb lb c B (drainL L id).2 ∧ Only [tb, lb] w w' := by
  have HE := Lib.hid h
  by_cases hy : whyF L id = 0
  · obtain ⟨k, ha⟩ := why_live hy
    have hk := h.kn ha
    have hqk : k.queued ≤ 9223372036854775807 := by
      unfold atL at ha
      split at ha
      · exact hq _ (List.mem_of_getElem? ha)
      · cases ha
    have hC : ∀ W, Calls Tryz.prog 47 #[k.val] W fun e w' => e = .returned (.tuple #[(drainK k).2.1.val, (drainK k).2.2.seen, .int .i64 (drainK k).1]) ∧ Below W.heap.size W w' := fun W => mod_Drain1 W k hk.2.2.2.2.2.2.2.1 hqk
    by_cases hd : k.queued = 0 ∧ k.cause = 0
    · have hdk : drainK k = (16, k, Kn.zero) := by unfold drainK; rw [if_pos hd]
      have hL : drainL L id = (16, L) := by unfold drainL; rw [ha]; dsimp only; rw [if_neg (by simp), hdk, if_pos (by simp)]
      rw [hL]
      rw [hdk] at hC
      have CA := Lib.hid (askS_no w bm bt tb lb c B L h id hw k k Kn.zero ha 16 (by decide) (fun W _ => hC W))
      clear h hk ha hy hq hqk hC hd hdk hL
      go_enter Tryz.func24, Tryz.ntmps24
      go_wp2_with (go_at_call 46; refine CA.out.mono ?_; rintro e w1 ⟨rfl, hb1⟩; have HB1 := Lib.hid hb1; clear hb1)
      go_ret
      exact ⟨rfl, HE.out.later (HB1.out.alloc HB1.out.size _), Only.of_below (HB1.out.alloc HB1.out.size _)⟩
    · have hdk : drainK k = (0, { k with queued := max (k.queued - 1) 0 }, k) := by unfold drainK; rw [if_neg hd]
      have hkn := drain_kn hk
      rw [hdk] at hC hkn
      have hq0 := hk.2.2.2.2.2.2.2.1
      have hat := at_set ha (0, { k with queued := max (k.queued - 1) 0 })
      obtain ⟨ca, en, cz, q, l, f, fr, p, g⟩ := k
      dsimp only at hq0 hd hkn hdk hC hat
      obtain ⟨q2, hq2⟩ : ∃ q2, max (q - 1) 0 = q2 := ⟨_, rfl⟩
      rw [hq2] at hkn hdk hC hat
      have CA := Lib.hid (askS_ok w bm bt tb lb c B L h id hw ⟨ca, en, cz, q, l, f, fr, p, g⟩ ⟨ca, en, cz, q2, l, f, fr, p, g⟩ ⟨ca, en, cz, q, l, f, fr, p, g⟩ ha B (by omega) h.2.2.2.2.2.2.2 hkn (fun W _ => hC W))
      by_cases hq1 : 0 < q
      · have hL : drainL L id = (0, L.set (id - 1).toNat (0, ⟨ca, en, cz, q2, l, f, fr, p, g⟩)) := by unfold drainL; rw [ha]; dsimp only; rw [if_neg (by simp), hdk]; dsimp only; rw [if_neg (by simp), if_pos hq1]
        rw [hL]
        clear h hk ha hy hq hqk hC hd hdk hL hkn hq0 hat hq2
        go_enter Tryz.func24, Tryz.ntmps24
        go_wp2_with (go_at_call 46; refine CA.out.mono ?_; rintro e w1 ⟨rfl, hm1, ho1⟩; have HM1 := Lib.hid hm1; have HO1 := Lib.hid ho1; clear hm1 ho1)
        go_ret
        have hb1 : Below w1.heap.size w1 (w1.alloc (.cells #[.int .i64 cz, .int .i64 q, .int .i64 l, .int .i64 f, .int .i64 fr, .int .i64 p, .int .i64 g] 35)) := (Below.refl _ _).alloc (Nat.le_refl _) _
        exact ⟨rfl, HM1.out.later hb1, (HO1.out.mono (by simp)).trans (Only.of_below hb1)⟩
      · have hq00 : q = 0 := by omega
        subst hq00
        have hcz : cz ≠ 0 := fun e => hd ⟨rfl, e⟩
        have hL : drainL L id = (cz, L.set (id - 1).toNat (cz, ⟨ca, en, cz, q2, l, f, fr, p, g⟩)) := by unfold drainL; rw [ha]; dsimp only; rw [if_neg (by simp), hdk]; dsimp only; rw [if_neg (by simp), if_neg hq1]
        have hss : (L.set (id - 1).toNat (0, ⟨ca, en, cz, q2, l, f, fr, p, g⟩)).set (id - 1).toNat (cz, ⟨ca, en, cz, q2, l, f, fr, p, g⟩) = L.set (id - 1).toNat (cz, ⟨ca, en, cz, q2, l, f, fr, p, g⟩) := List.set_set _
        have CO := Lib.hid (fun W (hW : MAt W bm bt tb lb c B (L.set (id - 1).toNat (0, ⟨ca, en, cz, q2, l, f, fr, p, g⟩))) => mod_over W bm bt tb lb c B _ hW id cz hw hcz _ hat)
        rw [hss] at CO
        rw [hL]
        clear h hk ha hy hq hqk hC hd hdk hL hkn hq0 hat hq2 hcz hss hw hq1
        go_enter Tryz.func24, Tryz.ntmps24
        go_wp2_with (first
          | (go_at_call 46; refine CA.out.mono ?_; rintro e w1 ⟨rfl, hm1, ho1⟩; have hb1 : Below w1.heap.size w1 (w1.alloc (.cells #[.int .i64 cz, .int .i64 0, .int .i64 l, .int .i64 f, .int .i64 fr, .int .i64 p, .int .i64 g] 35)) := (Below.refl _ _).alloc (Nat.le_refl _) _; have HM1 := Lib.hid (hm1.later hb1); have HO1 := Lib.hid ((ho1.mono (by simp : ∀ k ∈ [lb], k ∈ [tb, lb])).trans (Only.of_below hb1)); have HS1 := Lib.hid (Blk.new w1 35 #[.int .i64 cz, .int .i64 0, .int .i64 l, .int .i64 f, .int .i64 fr, .int .i64 p, .int .i64 g]); have HNE := Lib.hid (show w1.heap.size ≠ tb ∧ w1.heap.size ≠ lb from ⟨fun e => by have := hm1.2.1.2.1.lt; omega, fun e => by have := hm1.2.2.1.lt; omega⟩); clear hm1 ho1 hb1)
          | (go_at_call 48; refine (CO.out _ HM1.out).mono ?_; rintro e w2 ⟨⟨v, rfl⟩, hm2, ho2⟩; have s0 := (ho2.blk HS1.out (by simp; exact HNE.out)).cell 0; have HM2 := Lib.hid hm2; have HO2 := Lib.hid ho2; clear hm2 ho2))
        go_ret
        exact ⟨rfl, HM2.out, HO1.out.trans HO2.out⟩
  · rw [drainL_why hy]
    have CA := Lib.hid (fun fv => askS_why w bm bt tb lb c B L h id hw fv hy)
    have hyb : (whyF L id != 0) = true := bne_iff_ne.2 hy
    clear h hy hq
    go_enter Tryz.func24, Tryz.ntmps24
    go_wp2_with (go_at_call 46; refine (CA.out _).mono ?_; rintro e w1 ⟨rfl, hb1⟩; have HB1 := Lib.hid hb1; clear hb1)
    go_ret
    exact ⟨rfl, HE.out.later (HB1.out.alloc HB1.out.size _), Only.of_below (HB1.out.alloc HB1.out.size _)⟩
end Go.Proofs.YtklelheejopfmaaGreat
