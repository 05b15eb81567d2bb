/- Pl28 -/
import Derived.Test.YtklelheejopfmaaGreatK14
namespace Go.Proofs.YtklelheejopfmaaGreat
open Go Go.RowKit
attribute [local go_sem] Oper.semAt_some
theorem pl_cells {w W w5 : World} {b9 : Nat} {V : List Hd} {free want : Int} {pre : List Hd} {x1 : Int} {v v5 : Value} {f : Int} (hb : w.heap.size + 1 < b9) (h : PlF w b9 V free want pre v f W) 
    (hg : (W.alloc (.cells #[intV x1] 3)).grownBy w5 v.ownBlock) :
    w5.cell? ⟨b9, 0, none⟩ = some v ∧ w5.frozen? ⟨b9, 0, none⟩ = false ∧ (w5.setCell ⟨b9, 0, none⟩ v5).cell? ⟨w.heap.size, 0, none⟩ = some (.int .i64 f) ∧ (w5.setCell ⟨b9, 0, none⟩ v5).frozen? ⟨w.heap.size, 0, none⟩ = false := by
  have hrow : W.ownsRow (b9 + 2) 3 1 v (pre.map (·.1)).length ((pre.map (·.1)).map intV) := h.row
  have hne4 : v.ownBlock ≠ some w.heap.size := fun e => by have := (hrow.lt _ e).1; omega
  have hne9 : v.ownBlock ≠ some b9 := own_blk_ne hrow h.p9 (by decide)
  have k4 : Blk w5 w.heap.size 3 #[.int .i64 f] := (h.p4.alloc _).grown hg hne4
  have k9 : Blk w5 b9 40 #[v] := (h.p9.alloc _).grown hg hne9
  have n4 := k4.far (p := ⟨b9, 0, none⟩) (by show w.heap.size ≠ b9; omega) v5
  exact ⟨k9.cell 0, k9.frozen 0, n4.cell 0, n4.frozen 0⟩
def PlanPost (V : List Hd) (free want : Int) (w : World) (e : Ending) (w' : World) : Prop :=
  ∃ v f, e = .returned (.tuple #[v, .int .i64 f, .int .i64 0]) ∧ IRow w' w.heap.size v (planOut V free want) ∧ Below w.heap.size w w'
set_option maxRecDepth 100000 in
set_option maxHeartbeats 4000000 in
theorem press_Plan (w : World) (A : Option Addr) (hs : List Hd) (c : Nat) (hS : Sl w A (rowC hdC hs)) (hAb : ∀ ad, A = some ad → ad.block < w.heap.size) (hok : HdOk hs) (V : List Hd) (hV : Vict V hs) (free want : Int) (hf : 0 ≤ free ∧ free ≤ 10000) (hwt : 0 ≤ want ∧ want ≤ 10000) :
    Calls Tryz.prog 58 #[.slice A hs.length c, .int .i64 free, .int .i64 want] w (PlanPost V free want w) := by
  refine (callsIn_wide (n := 5)).1 ?_
  refine callsIn_of_wp_marks Tryz.func58 rfl trivial ?_ rfl
  simp only [Tryz.ntmps58, List.size_toArray, List.length_cons, List.length_nil, Nat.reduceAdd, Nat.reduceSub, Array.replicate_succ, Array.replicate_zero, List.push_toArray, List.append_toArray, List.nil_append, List.cons_append]
  refine wpIn_wide.2 ?_
  have g1 : decide (free < 0) = false := decide_eq_false (by omega)
  have g2 : decide (10000 < free) = false := decide_eq_false (by omega)
  have g3 : decide (want < 0) = false := decide_eq_false (by omega)
  have g4 : decide (10000 < want) = false := decide_eq_false (by omega)
  have hb0 : Below w.heap.size w ((w.alloc (.cells #[.int .i64 free] 3)).alloc (.cells #[.int .i64 want] 3)) := ((Below.refl _ w).alloc (Nat.le_refl _) _).alloc (by simp) _
  have CK := Lib.hid (press_Check _ A hs c (hS.below hb0) hok)
  have k4 := Lib.hid ((Blk.new w 3 #[.int .i64 free]).alloc (.cells #[.int .i64 want] 3))
  have k5 := Lib.hid ((Blk.new (w.alloc (.cells #[.int .i64 free] 3)) 3 #[.int .i64 want]).at_eq (World.size_alloc w _))
  have HS := Lib.hid hS; have HAb := Lib.hid hAb; have HO := Lib.hid hok; have HV := Lib.hid hV; have HF := Lib.hid (And.intro hf hwt); have HB0 := Lib.hid hb0
  clear hS hAb hok hV hf hwt hb0
  go_wp2_with (first
    | (go_at_call 65; refine CK.out.mono ?_; rintro e w1 ⟨rfl, hb1⟩; have x4 := (k4.out.below hb1 k4.out.lt).cell 0; have x5 := (k5.out.below hb1 k5.out.lt).cell 0; have HB1 := Lib.hid hb1; clear hb1)
    | (go_at_call 66; refine (press_victims _ _ _ _).mono ?_; rintro e w' ⟨rfl, rfl⟩))
  have HBT := Lib.hid (show Below w.heap.size w w1 from HB0.out.trans (HB1.out.mono HB0.out.size))
  have HSZ := Lib.hid (show w.heap.size + 1 < w1.heap.size by have := HB1.out.size; simp at this; omega)
  have h9 : Blk ((w1.alloc (.cells #[.slice none 0 0] 40)).alloc (.cells #[.slice A hs.length c] 91)) w1.heap.size 40 #[.slice none 0 0] := (Blk.new w1 _ _).alloc _
  have hc0 : Blk ((w1.alloc (.cells #[.slice none 0 0] 40)).alloc (.cells #[.slice A hs.length c] 91)) (w1.heap.size + 1) 91 #[.slice A hs.length c] := (Blk.new _ _ _).at_eq (World.size_alloc w1 _)
  have hbW : Below w1.heap.size w1 ((w1.alloc (.cells #[.slice none 0 0] 40)).alloc (.cells #[.slice A hs.length c] 91)) := ((Below.refl _ w1).alloc (Nat.le_refl _) _).alloc (by simp) _
  have hszW : ((w1.alloc (.cells #[.slice none 0 0] 40)).alloc (.cells #[.slice A hs.length c] 91)).heap.size = w1.heap.size + 2 := by simp
  have h4 := (k4.out.below HB1.out k4.out.lt).below hbW (k4.out.below HB1.out k4.out.lt).lt
  have h5 := (k5.out.below HB1.out k5.out.lt).below hbW (k5.out.below HB1.out k5.out.lt).lt
  have hbT : Below w.heap.size w ((w1.alloc (.cells #[.slice none 0 0] 40)).alloc (.cells #[.slice A hs.length c] 91)) := HBT.out.trans (hbW.mono HBT.out.size)
  have hsW := HS.out.below hbT
  generalize ((w1.alloc (.cells #[.slice none 0 0] 40)).alloc (.cells #[.slice A hs.length c] 91)) = W0 at h9 hc0 hbW hszW h4 h5 hbT hsW ⊢
  obtain ⟨b9, hb9⟩ : ∃ b9, w1.heap.size = b9 := ⟨_, rfl⟩
  rw [hb9] at h9 hc0 hszW HSZ ⊢
  have hPl : PlF w b9 V free want [] (.slice none 0 0) free W0 := ⟨h4, h5, h9, World.ownsRow_nil _ _ _ _, hbT, Nat.le_of_eq hszW.symm, rfl, HF.out.1.1, by have := HF.out.1.2; simp; omega⟩
  have H0 := Lib.hid hPl; have HC0 := Lib.hid hc0; have HS0 := Lib.hid hsW; have HZ0 := Lib.hid hszW
  clear h9 hc0 hbW hszW h4 h5 hbT hsW hPl x4 x5 hb9 k4 k5 CK HB1 HBT HB0
  refine (wpIn_wide (n := 5)).1 ?_
  refine wp_own (α := Hd) (enc := fun x => #[.int .i64 x.1, .int .i64 x.2]) (S := fun xs => xs = V) (Sp := fun pre => pre <+: V) (Rd := fun i => i = b9 + 1 ∨ ∃ ad, A = some ad ∧ i = ad.block) rfl (by decide) (gf := 73)
    (lb := #[.pointer (some ⟨b9 + 1, 0, none⟩)]) rfl trivial (enters_of Tryz.func73 (by kernel_rfl) rfl) (victims_seq 4 (by decide) W0 (b9 + 1) A c hs HO.out.1 HC0.out HS0.out V HV.out) (Below.refl _ _) (fun _ => rfl)
    (PlM w b9) (PlI w b9 V free want) (PlX w b9 V free want) (plI_own (by have := HZ0.out; have := HSZ.out; omega)) (fun c => plX_own (by have := HZ0.out; have := HSZ.out; omega) c) (fun pre A B row hI hg hr => plM_same hI hg hr)
    (fun own pre A B hI ht ho => plI_turn HSZ.out own pre A B hI ht (fun i hi => by have h1 := ho i hi; rw [HZ0.out] at h1; exact h1))
    (fun pre A' hI i hm => by have h1 := plM_out hI i hm; have h2 := HSZ.out; exact ⟨by rintro (h3 | ⟨ad, h3, h4⟩); omega; have := HAb.out ad h3; omega, h1.2⟩)
    (fun i hi => by have h1 := HZ0.out; have h2 := HSZ.out; rcases hi with h3 | ⟨ad, h3, h4⟩; omega; have := HAb.out ad h3; omega) ?start
    (fun x => { tmps := #[Value.slice A hs.length c, Value.int IntKind.i64 free, Value.int IntKind.i64 want, undef, .pointer (some ⟨w.heap.size, 0, none⟩), .pointer (some ⟨w.heap.size + 1, 0, none⟩), .slice none 0 0, .int .i64 0, .int .i64 0, .pointer (some ⟨b9, 0, none⟩), .int .i64 x.1, .int .i64 x.2, .slice A hs.length c, .int .i64 0, .bool false, .bool false, .int .i64 free, .bool false, .bool false, .bool false, .int .i64 free, .bool false, .bool false, .bool false, .int .i64 want, .bool false, .bool false, .bool false, .int .i64 want, .bool false, .bool false, .slice A hs.length c, .func (.func 73) #[] #[.pointer (some ⟨b9 + 1, 0, none⟩)], .int .i64 x.1, .int .i64 x.2, undef, undef, undef, undef, undef, undef, undef, undef, undef, undef, undef, undef], defers := [] }) ?assign ?body ?done ?stop
  case start => exact ⟨_, _, H0.out⟩
  case assign =>
    intro l x W K hK
    gi_wp2
    exact hK
  case stop =>
    rintro D c' pre W hD hpre ⟨rfl, q, x, v, f, rfl, h, hwf⟩ hK
    have H4 := Lib.hid h; have HK := Lib.hid hK; have HWF := Lib.hid hwf; have HD := Lib.hid hD
    clear h hK hwf hD hpre
    have s0 := H4.out.p9.cell 0
    have s4 := H4.out.p4.cell 0
    gi_wp2_with fail
    go_wp2_with fail
    refine wp_mono ?_ (NoPanic.to _)
    refine wp_region_plan2 (fun W' => Blk W' b9 40 #[v] ∧ Blk W' w.heap.size 3 #[.int .i64 f]) 5 [(0, true), (1, true), (2, true), (3, true), (4, true)] (by kernel_rfl) (by kernel_rfl) (NoPanic.no _) (by decide) (by simp only [List.map_cons, List.map_nil, Array.getD_eq_getD_getElem?, List.getElem?_toArray, List.getElem?_cons_zero, List.getElem?_cons_succ, Option.getD_some]; rfl) (by simp only [List.map_cons, List.map_nil]; rfl) ⟨H4.out.p9.drew', H4.out.p4.drew'⟩ (fun PE hPE => ?_)
    refine plan_take (v := ?_) rfl (by rfl) ?_ ?_
    rotate_left
    · intro _ hSw; (try dsimp only at hSw); have c0 := hSw.1.cell 0; go_simp; (try with_reducible rfl)
    simp only [List.setIfInBounds_toArray, List.set_cons_zero, List.set_cons_succ]
    refine plan_take (v := ?_) rfl (by rfl) ?_ ?_
    rotate_left
    · intro _ hSw; (try dsimp only at hSw); have c0 := hSw.2.cell 0; go_simp; (try with_reducible rfl)
    simp only [List.setIfInBounds_toArray, List.set_cons_zero, List.set_cons_succ]
    refine plan_take (v := ?_) rfl (by rfl) ?_ ?_
    rotate_left
    · intro _ hSw; (try dsimp only at hSw); go_simp; (try with_reducible rfl)
    simp only [List.setIfInBounds_toArray, List.set_cons_zero, List.set_cons_succ]
    refine plan_take (v := ?_) rfl (by rfl) ?_ ?_
    rotate_left
    · intro _ hSw; (try dsimp only at hSw); go_simp; (try with_reducible rfl)
    simp only [List.setIfInBounds_toArray, List.set_cons_zero, List.set_cons_succ]
    refine plan_take (v := ?_) rfl (by rfl) ?_ ?_
    rotate_left
    · intro _ hSw; (try dsimp only at hSw); go_simp; (try with_reducible rfl)
    simp only [List.setIfInBounds_toArray, List.set_cons_zero, List.set_cons_succ]
    (refine hPE _ _ ?_; simp only [List.drop_succ_cons, List.drop_zero]; clear hPE PE)
    show NoPanic _ .normal _ _
    rw [NoPanic_normal]
    have H5 := Lib.hid (show PlF w b9 V free want q v f W.drew from ⟨H4.out.p4.drew', H4.out.p5.drew', H4.out.p9.drew', H4.out.row.below (Below.refl _ _).drew, H4.out.bel.drew, H4.out.sz, H4.out.pl, H4.out.f0, H4.out.f1⟩)
    have HK5 := Lib.hid (show W.drew.heap[D]? = some (.deferred (some [])) from HK.out)
    generalize W.drew = W' at H5 HK5 ⊢
    go_wp2_with fail
    have hDs : b9 + 2 ≤ D := by have := HZ0.out; have := HD.out; omega
    have hpl : planOut V free want = q.map (·.1) := by
      have h1 := H5.out.pl
      have h2 : planOut (V.drop q.length) f want = [] := by
        cases V.drop q.length with
        | nil => rfl
        | cons a l => rw [planOut, if_pos HWF.out]
      rw [h2, List.append_nil] at h1; exact h1
    refine ret_mark HK5.out (by simp [results, Tryz.results58, go_sem]; rfl) ?_
    exact ⟨v, f, rfl, by rw [hpl]; exact row_put (own_mono H5.out.row (by have := HSZ.out; omega)) HK5.out, H5.out.bel.trans (put_below (by have := HSZ.out; omega))⟩
  case done =>
    rintro D xs W hD hxs ⟨v, f, h⟩ hK
    have hxs2 := hxs.symm
    subst hxs2
    clear hxs
    have H4 := Lib.hid h; have HK := Lib.hid hK; have HD := Lib.hid hD
    clear h hK hD
    have s0 := H4.out.p9.cell 0
    have s4 := H4.out.p4.cell 0
    go_wp2_with fail
    refine wp_mono ?_ (NoPanic.to _)
    refine wp_region_plan2 (fun W' => Blk W' b9 40 #[v] ∧ Blk W' w.heap.size 3 #[.int .i64 f]) 5 [(0, true), (1, true), (2, true), (3, true), (4, true)] (by kernel_rfl) (by kernel_rfl) (NoPanic.no _) (by decide) (by simp only [List.map_cons, List.map_nil, Array.getD_eq_getD_getElem?, List.getElem?_toArray, List.getElem?_cons_zero, List.getElem?_cons_succ, Option.getD_some]; rfl) (by simp only [List.map_cons, List.map_nil]; rfl) ⟨H4.out.p9.drew', H4.out.p4.drew'⟩ (fun PE hPE => ?_)
    refine plan_take (v := ?_) rfl (by rfl) ?_ ?_
    rotate_left
    · intro _ hSw; (try dsimp only at hSw); have c0 := hSw.1.cell 0; go_simp; (try with_reducible rfl)
    simp only [List.setIfInBounds_toArray, List.set_cons_zero, List.set_cons_succ]
    refine plan_take (v := ?_) rfl (by rfl) ?_ ?_
    rotate_left
    · intro _ hSw; (try dsimp only at hSw); have c0 := hSw.2.cell 0; go_simp; (try with_reducible rfl)
    simp only [List.setIfInBounds_toArray, List.set_cons_zero, List.set_cons_succ]
    refine plan_take (v := ?_) rfl (by rfl) ?_ ?_
    rotate_left
    · intro _ hSw; (try dsimp only at hSw); go_simp; (try with_reducible rfl)
    simp only [List.setIfInBounds_toArray, List.set_cons_zero, List.set_cons_succ]
    refine plan_take (v := ?_) rfl (by rfl) ?_ ?_
    rotate_left
    · intro _ hSw; (try dsimp only at hSw); go_simp; (try with_reducible rfl)
    simp only [List.setIfInBounds_toArray, List.set_cons_zero, List.set_cons_succ]
    refine plan_take (v := ?_) rfl (by rfl) ?_ ?_
    rotate_left
    · intro _ hSw; (try dsimp only at hSw); go_simp; (try with_reducible rfl)
    simp only [List.setIfInBounds_toArray, List.set_cons_zero, List.set_cons_succ]
    (refine hPE _ _ ?_; simp only [List.drop_succ_cons, List.drop_zero]; clear hPE PE)
    show NoPanic _ .normal _ _
    rw [NoPanic_normal]
    have H5 := Lib.hid (show PlF w b9 V free want V v f W.drew from ⟨H4.out.p4.drew', H4.out.p5.drew', H4.out.p9.drew', H4.out.row.below (Below.refl _ _).drew, H4.out.bel.drew, H4.out.sz, H4.out.pl, H4.out.f0, H4.out.f1⟩)
    have HK5 := Lib.hid (show W.drew.heap[D]? = some (.deferred (some [])) from HK.out)
    generalize W.drew = W' at H5 HK5 ⊢
    go_wp2_with fail
    have hDs : b9 + 2 ≤ D := by have := HZ0.out; have := HD.out; omega
    have hpl : planOut V free want = V.map (·.1) := by have h1 := H5.out.pl; rw [List.drop_length, planOut, List.append_nil] at h1; exact h1
    refine ret_mark HK5.out (by simp [results, Tryz.results58, go_sem]; rfl) ?_
    exact ⟨v, f, rfl, by rw [hpl]; exact row_put (own_mono H5.out.row (by have := HSZ.out; omega)) HK5.out, H5.out.bel.trans (put_below (by have := HSZ.out; omega))⟩
  case body =>
    rintro l pre x W hl ⟨v, f, h⟩ hsp
    have s0 := h.p9.cell 0
    have f9 := h.p9.frozen 0
    have s4 := h.p4.cell 0
    have f4 := h.p4.frozen 0
    have s5 := h.p5.cell 0
    have HP := Lib.hid h
    have HSP := Lib.hid hsp
    by_cases hfw : want ≤ f
    · clear hsp h
      gi_wp2_with fail
      exact ⟨KeepsFrom.refl _ _, rfl, pre, x, v, f, rfl, HP.out, hfw⟩
    · have hx := (HO.out.2.1 x (by
        have h1 := hsp.subset (List.mem_append_right pre (List.mem_singleton_self x))
        exact (List.mem_filter.1 (HV.out.2.mem_iff.1 h1)).1)).2
      obtain ⟨x1, x2⟩ := x
      dsimp only at hx ⊢
      have hpl : pre.length ≤ 64 := by
        have h1 := hsp.length_le
        have h2 := HV.out.2.length_eq
        have h3 := List.length_filter_le (fun h : Hd => decide (0 < h.2)) hs
        have h4 := HO.out.1
        rw [List.length_append] at h1
        omega
      have hw : wrap64 (f + x2) = f + x2 := wrap64_id (by have := h.f0; omega) (by have := h.f1; omega)
      have HX := Lib.hid hx
      have HW := Lib.hid hw
      have HPL := Lib.hid hpl
      have HFW := Lib.hid (show f < want by omega)
      clear hsp h hx hpl f9 f4
      gi_wp2_with (gi_at_builtin; refine wpListIn_app etInt rfl rfl rfl (own_below HP.out.own ((Below.refl _ _).alloc (Nat.le_refl _) (.cells #[intV x1] 3)) (Nat.le_refl _)) rfl (m := 1) (news := [intV x1]) rfl ((Blk.new W 3 #[intV x1]).sl 0) (by intro u hu; simp at hu; subst hu; rfl) (by have := HPL.out; omega) (by rw [World.size_alloc]; have := HP.out.sz; omega) ?_; intro v5 w5 ho5 hg5 hor5; obtain ⟨A5, e5, rfl, _⟩ := own_sl ho5; have hcl := pl_cells (v5 := .slice A5 (pre.length + 1) e5) HSZ.out HP.out hg5; have c9 := hcl.1; have d9 := hcl.2.1; have c4 := hcl.2.2.1; have d4 := hcl.2.2.2; clear hcl; have HR := Lib.hid (pl_round (B := W0.heap.size) (l := l) (f' := f + x2) HSZ.out HP.out HSP.out HX.out HFW.out rfl ho5 hg5 hor5); clear ho5 hg5 hor5)
      exact HR.out
end Go.Proofs.YtklelheejopfmaaGreat
