/- package model: Status, Free. -/
import Derived.Test.YtklelheejopfmaaOver
namespace Go.Proofs.Ytklelheejopfmaa
open Go Go.RowKit Go.Maps
attribute [local go_sem] Oper.semAt_some
theorem set7_blk {w : World} {b : Nat} {t : TypeId} {c0 c1 c2 c3 c4 c5 c6 : Value} (h : Blk w b t #[c0, c1, c2, c3, c4, c5, c6]) (v0 v1 v2 v3 v4 v5 v6 : Value) : Blk (((((((w.setCell ⟨b, 0, none⟩ v0).setCell ⟨b, 1, none⟩ v1).setCell ⟨b, 2, none⟩ v2).setCell ⟨b, 3, none⟩ v3).setCell ⟨b, 4, none⟩ v4).setCell ⟨b, 5, none⟩ v5).setCell ⟨b, 6, none⟩ v6) b t #[v0, v1, v2, v3, v4, v5, v6] := by
  have h1 := (((((((h.set_ 0 v0).set_ 1 v1).set_ 2 v2).set_ 3 v3).set_ 4 v4).set_ 5 v5).set_ 6 v6)
  simpa only [List.setIfInBounds_toArray, List.set_cons_zero, List.set_cons_succ] using h1
theorem set7_below {B : Nat} {a w : World} {b : Nat} (h : Below B a w) (hb : B ≤ b) (v0 v1 v2 v3 v4 v5 v6 : Value) : Below B a (((((((w.setCell ⟨b, 0, none⟩ v0).setCell ⟨b, 1, none⟩ v1).setCell ⟨b, 2, none⟩ v2).setCell ⟨b, 3, none⟩ v3).setCell ⟨b, 4, none⟩ v4).setCell ⟨b, 5, none⟩ v5).setCell ⟨b, 6, none⟩ v6) :=
  (((((((h.setCell (p := ⟨b, 0, none⟩) hb v0).setCell (p := ⟨b, 1, none⟩) hb v1).setCell (p := ⟨b, 2, none⟩) hb v2).setCell (p := ⟨b, 3, none⟩) hb v3).setCell (p := ⟨b, 4, none⟩) hb v4).setCell (p := ⟨b, 5, none⟩) hb v5).setCell (p := ⟨b, 6, none⟩) hb v6)
def statF (L : List Ent) (id : Int) : Value × Int := match atL L id with
  | none => (Kn.zero.seen, 18)
  | some x => if x.1 ≠ 0 then (Kn.seen { Kn.zero with cause := x.1 }, 0) else (x.2.seen, 0)
set_option maxRecDepth 100000 in
set_option maxHeartbeats 1000000 in
theorem mod_Status (w : World) (bm bt tb lb : Nat) (c : Cfg) (B : Int) (L : List Ent) (h : MAt w bm bt tb lb c B L) (id : Int) (hw : (Lit.int .i64 id).wf = true) :
    Calls Try.prog 22 #[.pointer (some ⟨bm, 0, none⟩), .int .i64 id] w fun e w' => e = .returned (.tuple #[(statF L id).1, .int .i64 (statF L id).2]) ∧ Below w.heap.size w w' := by
  have hb0 : Below w.heap.size w (w.alloc (.cells #[.int .i64 0, .int .i64 0, .int .i64 0, .int .i64 0, .int .i64 0, .int .i64 0, .int .i64 0] 27)) := (Below.refl _ _).alloc (Nat.le_refl _) _
  have H := Lib.hid (h.later hb0)
  have HB0 := Lib.hid hb0
  have m5 := (h.1.alloc (.cells #[.int .i64 0, .int .i64 0, .int .i64 0, .int .i64 0, .int .i64 0, .int .i64 0, .int .i64 0] 27)).cell 5
  have CC := Lib.hid (table_Cause _ bt tb c.sess L H.out.2.1 id hw)
  have HR := Lib.hid (Blk.new w 27 #[.int .i64 0, .int .i64 0, .int .i64 0, .int .i64 0, .int .i64 0, .int .i64 0, .int .i64 0])
  have HK := Lib.hid (key_int id hw)
  unfold causeF at CC
  obtain ⟨r, hr⟩ : ∃ r, statF L id = r := ⟨_, rfl⟩
  rw [hr]
  unfold statF at hr
  clear hb0 hw
  cases ha : atL L id with
  | none =>
    rw [ha] at CC hr
    dsimp only at CC hr
    subst hr
    clear ha h
    go_enter Try.func22, Try.ntmps22
    go_wp2_with (first
      | (go_at_call 33; refine (mod_none _ _ _ _ _ _ _ _ H.out).mono ?_; rintro e w' ⟨rfl, rfl⟩)
      | (go_at_call 39; refine CC.out.mono ?_; rintro e w1 ⟨rfl, hb1⟩; have hr := HR.out.below hb1 HR.out.lt; have r0 := hr.cell 0; have r1 := hr.cell 1; have r2 := hr.cell 2; have r3 := hr.cell 3; have r4 := hr.cell 4; have r5 := hr.cell 5; have r6 := hr.cell 6; have f0 := hr.frozen 0; have f1 := hr.frozen 1; have f2 := hr.frozen 2; have f3 := hr.frozen 3; have f4 := hr.frozen 4; have f5 := hr.frozen 5; have f6 := hr.frozen 6; have HR1 := Lib.hid hr; have HB1 := Lib.hid (HB0.out.trans (hb1.mono HB0.out.size)); clear hr hb1))
    have hZ := set7_blk HR1.out (.int .i64 0) (.int .i64 0) (.int .i64 0) (.int .i64 0) (.int .i64 0) (.int .i64 0) (.int .i64 0)
    have z0 := hZ.cell 0; have z1 := hZ.cell 1; have z2 := hZ.cell 2; have z3 := hZ.cell 3; have z4 := hZ.cell 4; have z5 := hZ.cell 5; have z6 := hZ.cell 6
    refine bodyPost_ret (by simp [results, Try.results22, go_sem, z0, z1, z2, z3, z4, z5, z6]; try rfl) rfl ?_
    exact ⟨rfl, set7_below HB1.out (Nat.le_refl _) _ _ _ _ _ _ _⟩
  | some x =>
    obtain ⟨d, k⟩ := x
    rw [ha] at CC hr
    dsimp only at CC hr
    by_cases hd : d = 0
    · subst hd
      rw [if_neg (by simp)] at hr
      subst hr
      obtain ⟨ca, en, cz, q, l, f, fr, p, g⟩ := k
      have HL := Lib.hid (fun v ps => look_L ha (v := v) (ps := ps))
      have hfd : ∀ W : World, (Instr.field 59 (.agg #[.int .i64 ca, .bool en, .int .i64 cz, .int .i64 q, .int .i64 l, .int .i64 f, .int .i64 fr, .int .i64 p, .int .i64 g]) 2).run Try.prog W = .ok (.agg #[.int .i64 cz, .int .i64 q, .int .i64 l, .int .i64 f, .int .i64 fr, .int .i64 p, .int .i64 g]) W := fun _ => by kernel_rfl
      clear ha h
      go_enter Try.func22, Try.ntmps22
      go_wp2_with (first
        | (go_at_call 33; refine (mod_none _ _ _ _ _ _ _ _ H.out).mono ?_; rintro e w' ⟨rfl, rfl⟩)
        | (go_at_call 39; refine CC.out.mono ?_; rintro e w1 ⟨rfl, hb1⟩; have hr := HR.out.below hb1 HR.out.lt; have r0 := hr.cell 0; have r1 := hr.cell 1; have r2 := hr.cell 2; have r3 := hr.cell 3; have r4 := hr.cell 4; have r5 := hr.cell 5; have r6 := hr.cell 6; have f0 := hr.frozen 0; have f1 := hr.frozen 1; have f2 := hr.frozen 2; have f3 := hr.frozen 3; have f4 := hr.frozen 4; have f5 := hr.frozen 5; have f6 := hr.frozen 6; have HR1 := Lib.hid hr; have HB1 := Lib.hid (HB0.out.trans (hb1.mono HB0.out.size)); have H1 := Lib.hid (H.out.later hb1); have y6 := H1.out.1.cell 6; obtain ⟨v, ps, hrun, hv⟩ := H1.out.2.2.1.lookup (t := 47) keyed_int Try.underlying47 (z := Kn.zero.val) (Try.zeroValue59 _) (zd := .held Kn.zero.val) (zp := []) rfl HK.out; obtain rfl := HL.out _ _ hv; clear hv; clear hr hb1))
      have hZ := set7_blk HR1.out (.int .i64 cz) (.int .i64 q) (.int .i64 l) (.int .i64 f) (.int .i64 fr) (.int .i64 p) (.int .i64 g)
      have z0 := hZ.cell 0; have z1 := hZ.cell 1; have z2 := hZ.cell 2; have z3 := hZ.cell 3; have z4 := hZ.cell 4; have z5 := hZ.cell 5; have z6 := hZ.cell 6
      refine bodyPost_ret (by simp [results, Try.results22, go_sem, z0, z1, z2, z3, z4, z5, z6]; try rfl) rfl ?_
      exact ⟨rfl, set7_below HB1.out (Nat.le_refl _) _ _ _ _ _ _ _⟩
    · rw [if_pos hd] at hr
      subst hr
      have hdb : (d != 0) = true := bne_iff_ne.2 hd
      clear ha h hd
      go_enter Try.func22, Try.ntmps22
      go_wp2_with (first
        | (go_at_call 33; refine (mod_none _ _ _ _ _ _ _ _ H.out).mono ?_; rintro e w' ⟨rfl, rfl⟩)
        | (go_at_call 39; refine CC.out.mono ?_; rintro e w1 ⟨rfl, hb1⟩; have hr := HR.out.below hb1 HR.out.lt; have r0 := hr.cell 0; have r1 := hr.cell 1; have r2 := hr.cell 2; have r3 := hr.cell 3; have r4 := hr.cell 4; have r5 := hr.cell 5; have r6 := hr.cell 6; have f0 := hr.frozen 0; have f1 := hr.frozen 1; have f2 := hr.frozen 2; have f3 := hr.frozen 3; have f4 := hr.frozen 4; have f5 := hr.frozen 5; have f6 := hr.frozen 6; have HR1 := Lib.hid hr; have HB1 := Lib.hid (HB0.out.trans (hb1.mono HB0.out.size)); clear hr hb1))
      have hZ := set7_blk HR1.out (.int .i64 d) (.int .i64 0) (.int .i64 0) (.int .i64 0) (.int .i64 0) (.int .i64 0) (.int .i64 0)
      have z0 := hZ.cell 0; have z1 := hZ.cell 1; have z2 := hZ.cell 2; have z3 := hZ.cell 3; have z4 := hZ.cell 4; have z5 := hZ.cell 5; have z6 := hZ.cell 6
      refine bodyPost_ret (by simp [results, Try.results22, go_sem, z0, z1, z2, z3, z4, z5, z6]; try rfl) rfl ?_
      exact ⟨rfl, set7_below HB1.out (Nat.le_refl _) _ _ _ _ _ _ _⟩
end Go.Proofs.Ytklelheejopfmaa
