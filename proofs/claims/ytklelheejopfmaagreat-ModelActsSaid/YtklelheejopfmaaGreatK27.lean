/- See, SeeM, Feed29, Out29 -/
import Derived.Test.YtklelheejopfmaaGreatK23
import Derived.Test.YtklelheejopfmaaGreatK24
import Derived.Test.YtklelheejopfmaaGreatK25
import Derived.Test.YtklelheejopfmaaGreatK26
import Derived.Test.YtklelheejopfmaaGreatK19
import Derived.Test.YtklelheejopfmaaGreatK20
import Derived.Test.YtklelheejopfmaaGreatK21
import Derived.Test.YtklelheejopfmaaGreatK22
namespace Go.Proofs.YtklelheejopfmaaGreat
open Go Go.RowKit Go.Maps
attribute [local go_sem] Oper.semAt_some
theorem mod_See1 (w : World) (bm bt tb lb bn bp : Nat) (c : Cfg) (B : Int) (L : List Ent) (h : MAt w bm bt tb lb c B L) (ca : Int) (en : Bool) (cz q l f fr p g sc sq sl sf sfr sp sg : Int) (hk : KnOk c B ⟨ca, en, cz, q, l, f, fr, p, g⟩)
    (hn : Blk w bn 35 #[.int .i64 sc, .int .i64 sq, .int .i64 sl, .int .i64 sf, .int .i64 sfr, .int .i64 sp, .int .i64 sg]) (hp : Blk w bp 25 #[.pointer (some ⟨bm, 0, none⟩)]) :
    Calls Tryz.prog 44 #[.agg #[.int .i64 ca, .bool en, .int .i64 cz, .int .i64 q, .int .i64 l, .int .i64 f, .int .i64 fr, .int .i64 p, .int .i64 g], .pointer (some ⟨bn, 0, none⟩), .pointer (some ⟨bp, 0, none⟩)] w fun e w' =>
      e = .returned (.tuple #[.agg #[.int .i64 ca, .bool en, .int .i64 sc, .int .i64 sq, .int .i64 sl, .int .i64 sf, .int .i64 sfr, .int .i64 sp, .int .i64 sg], .int .i64 0, .int .i64 (if SeeOk c ca cz p g sc sq sl sf sfr sp sg then 0 else 2)]) ∧ Below w.heap.size w w' := by
  have n2 : ¬ SeeOk c ca cz p g sc sq sl sf sfr sp sg → (if SeeOk c ca cz p g sc sq sl sf sfr sp sg then (0 : Int) else 2) = 2 := fun h => if_neg h
  have n0 : SeeOk c ca cz p g sc sq sl sf sfr sp sg → (if SeeOk c ca cz p g sc sq sl sf sfr sp sg then (0 : Int) else 2) = 0 := fun h => if_pos h
  by_cases a1 : wrap64 (wrap64 (8 * ca) - sg) = sl
  case neg => rw [n2 (fun h0 => a1 h0.1.1)]; exact see_c1 w bm bt tb lb bn bp c B L h ca en cz q l f fr p g sc sq sl sf sfr sp sg _ _ hk hn hp rfl rfl a1
  by_cases a2 : wrap64 (wrap64 (c.room - ca) + wrap64 (sg.tdiv 8)) = sf
  case neg => rw [n2 (fun h0 => a2 h0.1.2)]; exact see_c2 w bm bt tb lb bn bp c B L h ca en cz q l f fr p g sc sq sl sf sfr sp sg _ hk hn hp a1 rfl a2
  by_cases c1 : g ≤ sg ∧ sg ≤ 8 * ca
  case neg => rw [n2 (fun h0 => c1 h0.2.1)]; exact see_c3 w bm bt tb lb bn bp c B L h ca en cz q l f fr p g sc sq sl sf sfr sp sg hk hn hp a1 a2 c1
  by_cases c2 : 0 ≤ sq ∧ sq ≤ c.slots
  case neg => rw [n2 (fun h0 => c2 h0.2.2.1)]; exact see_c4 w bm bt tb lb bn bp c B L h ca en cz q l f fr p g sc sq sl sf sfr sp sg hk hn hp a1 a2 c1 c2
  by_cases c3 : 0 ≤ sfr ∧ sfr ≤ c.quota
  case neg => rw [n2 (fun h0 => c3 h0.2.2.2.1)]; exact see_c5 w bm bt tb lb bn bp c B L h ca en cz q l f fr p g sc sq sl sf sfr sp sg hk hn hp a1 a2 c1 c2 c3
  by_cases c4 : sp < p
  case pos => rw [n2 (fun h0 => h0.2.2.2.2.1 c4)]; exact see_c6 w bm bt tb lb bn bp c B L h ca en cz q l f fr p g sc sq sl sf sfr sp sg hk hn hp a1 a2 c1 c2 c3 c4
  by_cases c5 : cz = 0
  case pos => rw [n0 ⟨⟨a1, a2⟩, c1, c2, c3, c4, fun h => h.1 c5⟩]; exact see_c7 w bm bt tb lb bn bp c B L h ca en cz q l f fr p g sc sq sl sf sfr sp sg hk hn hp a1 a2 c1 c2 c3 c4 (by rw [c5]; rfl)
  by_cases c6 : sc = cz
  case pos => rw [n0 ⟨⟨a1, a2⟩, c1, c2, c3, c4, fun h => h.2 c6⟩]; exact see_c8 w bm bt tb lb bn bp c B L h ca en cz q l f fr p g sc sq sl sf sfr sp sg hk hn hp a1 a2 c1 c2 c3 c4 (bne_iff_ne.2 c5) (by rw [c6]; exact bne_self_eq_false cz)
  rw [n2 (fun h0 => h0.2.2.2.2.2 ⟨c5, c6⟩)]; exact see_c9 w bm bt tb lb bn bp c B L h ca en cz q l f fr p g sc sq sl sf sfr sp sg hk hn hp a1 a2 c1 c2 c3 c4 (bne_iff_ne.2 c5) (bne_iff_ne.2 c6)
end Go.Proofs.YtklelheejopfmaaGreat
namespace Go.Proofs.YtklelheejopfmaaGreat
open Go Go.RowKit Go.Maps
attribute [local go_sem] Oper.semAt_some
def seeF (c : Cfg) (s k : Kn) : Int × Int × Kn := (0, if SeeOk c k.came k.cause k.pics k.gone s.cause s.queued s.left s.free s.frames s.pics s.gone then 0 else 2, { s with came := k.came, ended := k.ended })
theorem see_ok {c : Cfg} (hc : CfgOk c) {B : Int} (hB : B ≤ 2 ^ 45) {s k : Kn} (hk : KnOk c B k) (h : (seeF c s k).2.1 = 0) : KnOk c B (seeF c s k).2.2 := by
  have h0 : SeeOk c k.came k.cause k.pics k.gone s.cause s.queued s.left s.free s.frames s.pics s.gone := by
    by_cases hs : SeeOk c k.came k.cause k.pics k.gone s.cause s.queued s.left s.free s.frames s.pics s.gone
    · exact hs
    · unfold seeF at h; dsimp only at h; rw [if_neg hs] at h; cases h
  obtain ⟨⟨a1, a2⟩, ⟨b1, b2⟩, ⟨c1, c2⟩, ⟨d1, d2⟩, _⟩ := h0
  obtain ⟨h1, h2, h3, h4, h5, h6, h7, h8, h9, h10⟩ := hk
  have hr := hc.2.2.2.2.2.2.2.1
  have hr0 := hc.2.2.2.2.2.2.1
  have e1 : wrap64 (8 * k.came) = 8 * k.came := by unfold wrap64; omega
  have e2 : wrap64 (8 * k.came - s.gone) = 8 * k.came - s.gone := by unfold wrap64; omega
  have e3 : s.gone.tdiv 8 = s.gone / 8 := Int.tdiv_eq_ediv_of_nonneg (by omega)
  have e4 : wrap64 (s.gone / 8) = s.gone / 8 := by unfold wrap64; omega
  have e5 : wrap64 (c.room - k.came) = c.room - k.came := by unfold wrap64; omega
  have e6 : wrap64 (c.room - k.came + s.gone / 8) = c.room - k.came + s.gone / 8 := by unfold wrap64; omega
  rw [e1, e2] at a1
  rw [e5, e3, e4, e6] at a2
  refine ⟨?_, b2, h3, h4, a1.symm, a2.symm, ?_, c1, d1, d2⟩
  · show 0 ≤ s.gone; omega
  · show 0 ≤ s.free; omega
set_option maxRecDepth 100000 in
theorem mod_See (w : World) (bm bt tb lb : Nat) (c : Cfg) (B : Int) (L : List Ent) (h : MAt w bm bt tb lb c B L) (id : Int) (hw : (Lit.int .i64 id).wf = true) (s : Kn) :
    Calls Tryz.prog 21 #[.pointer (some ⟨bm, 0, none⟩), .int .i64 id, s.seen] w fun e w' => e = .returned (.int .i64 (onL L id (seeF c s)).2.1) ∧ MAt w' bm bt tb lb c B (onL L id (seeF c s)).2.2 ∧ Only [lb] w w' := by
  have hb0 : Below w.heap.size w ((w.alloc (.cells #[.pointer (some ⟨bm, 0, none⟩)] 25)).alloc (.cells #[.int .i64 s.cause, .int .i64 s.queued, .int .i64 s.left, .int .i64 s.free, .int .i64 s.frames, .int .i64 s.pics, .int .i64 s.gone] 35)) := ((Below.refl _ _).alloc (Nat.le_refl _) _).alloc (by simp) _
  have hp := (Blk.new w 25 #[.pointer (some ⟨bm, 0, none⟩)]).alloc (.cells #[.int .i64 s.cause, .int .i64 s.queued, .int .i64 s.left, .int .i64 s.free, .int .i64 s.frames, .int .i64 s.pics, .int .i64 s.gone] 35)
  have hn := (Blk.new (w.alloc (.cells #[.pointer (some ⟨bm, 0, none⟩)] 25)) 35 #[.int .i64 s.cause, .int .i64 s.queued, .int .i64 s.left, .int .i64 s.free, .int .i64 s.frames, .int .i64 s.pics, .int .i64 s.gone]).at_eq (World.size_alloc w _)
  have hm := h.later hb0
  have HB0 := Lib.hid hb0
  have HE := Lib.hid h
  by_cases hy : whyF L id = 0
  · obtain ⟨k, ha⟩ := why_live hy
    have hk := h.kn ha
    have hC : ∀ W, Below ((w.alloc (.cells #[.pointer (some ⟨bm, 0, none⟩)] 25)).alloc (.cells #[.int .i64 s.cause, .int .i64 s.queued, .int .i64 s.left, .int .i64 s.free, .int .i64 s.frames, .int .i64 s.pics, .int .i64 s.gone] 35)).heap.size ((w.alloc (.cells #[.pointer (some ⟨bm, 0, none⟩)] 25)).alloc (.cells #[.int .i64 s.cause, .int .i64 s.queued, .int .i64 s.left, .int .i64 s.free, .int .i64 s.frames, .int .i64 s.pics, .int .i64 s.gone] 35)) W →
        Calls Tryz.prog 44 #[k.val, .pointer (some ⟨w.heap.size + 1, 0, none⟩), .pointer (some ⟨w.heap.size, 0, none⟩)] W fun e w' => e = .returned (.tuple #[(seeF c s k).2.2.val, .int .i64 0, .int .i64 (seeF c s k).2.1]) ∧ Below W.heap.size W w' := fun W hW =>
      mod_See1 W bm bt tb lb _ _ c B L (hm.later hW) k.came k.ended k.cause k.queued k.left k.free k.frames k.pics k.gone s.cause s.queued s.left s.free s.frames s.pics s.gone hk (hn.below hW hn.lt) (hp.below hW hp.lt)
    by_cases he : (seeF c s k).2.1 = 0
    · rw [onL_ok ha he]
      have CA := Lib.hid (ask_See_ok _ bm bt tb lb (w.heap.size + 1) w.heap.size c B L hm id hw k (seeF c s k).2.2 ha 0 B (by omega) h.2.2.2.2.2.2.2 (see_ok h.2.2.2.2.1 h.2.2.2.2.2.2.2 hk he) (by rw [he] at hC; exact hC))
      clear h hm hp hn hC hk ha hy hb0
      go_enter Tryz.func21, Tryz.ntmps21
      go_wp2_with (go_at_call 43; refine CA.out.mono ?_; rintro e w1 ⟨rfl, hm1, ho1⟩; have HM1 := Lib.hid hm1; have HO1 := Lib.hid ho1; clear hm1 ho1)
      go_ret
      exact ⟨rfl, HM1.out, (Only.of_below HB0.out).trans HO1.out⟩
    · rw [onL_no ha he]
      have CA := Lib.hid (ask_See_no _ bm bt tb lb (w.heap.size + 1) w.heap.size c B L hm id hw k (seeF c s k).2.2 ha 0 (seeF c s k).2.1 he hC)
      clear h hm hp hn hC hk ha hy hb0
      go_enter Tryz.func21, Tryz.ntmps21
      go_wp2_with (go_at_call 43; refine CA.out.mono ?_; rintro e w1 ⟨rfl, hb1⟩; have HB1 := Lib.hid (HB0.out.trans (hb1.mono HB0.out.size)); clear hb1)
      go_ret
      exact ⟨rfl, HE.out.later HB1.out, Only.of_below HB1.out⟩
  · rw [onL_why hy]
    have CA := Lib.hid (fun fv => ask_why _ bm bt tb lb c B L hm id hw fv hy)
    clear h hm hp hn hy hb0
    go_enter Tryz.func21, Tryz.ntmps21
    go_wp2_with (go_at_call 43; refine (CA.out _).mono ?_; rintro e w1 ⟨rfl, hb1⟩; have HB1 := Lib.hid (HB0.out.trans (hb1.mono HB0.out.size)); clear hb1)
    go_ret
    exact ⟨rfl, HE.out.later HB1.out, Only.of_below HB1.out⟩
end Go.Proofs.YtklelheejopfmaaGreat
namespace Go.Proofs.YtklelheejopfmaaGreat
open Go Go.RowKit Go.Maps
attribute [local go_sem] Oper.semAt_some
theorem ix_of {L : List Ent} {id : Int} {x : Ent} (ha : atL L id = some x) : ∃ i : Nat, id = (i : Int) + 1 ∧ (id - 1).toNat = i ∧ i < L.length ∧ L[i]? = some x := by
  have hwf := atL_wf ha
  refine ⟨(id - 1).toNat, by omega, rfl, by omega, ?_⟩
  unfold atL at ha
  rw [if_pos hwf.1] at ha
  exact ha
theorem ix_get {L : List Ent} {i : Nat} {x : Ent} (h : L[i]? = some x) : ∃ hi : i < L.length, L[i] = x := List.getElem?_eq_some_iff.1 h
/-- the cells of one number. -/
theorem RAt.cells {w : World} {rm rt base : Nat} {c : Cfg} {L : List Ent} (h : RAt w rm rt base c L) {i : Nat} {d : Int} {k : Kn} (hL : L[i]? = some (d, k)) : ∃ g cap, w.cell? ⟨rm, 6, none⟩ = some (.slice (some ⟨g, 0, none⟩) L.length cap) ∧ base ≤ g ∧ (∀ j < 9, w.cell? ⟨g, i * 9 + j, none⟩ = (knC k)[j]?) ∧ (∀ j, w.frozen? ⟨g, j, none⟩ = false) := by
  obtain ⟨hi, hx⟩ := ix_get hL
  have h1 := h.row hi
  rw [hx] at h1
  exact h1
theorem RAt.turn {w : World} {rm rt base : Nat} {c : Cfg} {L : List Ent} (h : RAt w rm rt base c L) {i : Nat} {d : Int} {k k2 : Kn} (hL : L[i]? = some (d, k)) {g cap : Nat} (hg : w.cell? ⟨rm, 6, none⟩ = some (.slice (some ⟨g, 0, none⟩) L.length cap)) (j : Nat) (hj : j < 9) (u : Value) (hk : knC k2 = (knC k).set j u) :
    RAt (w.setCell ⟨g, i * 9 + j, none⟩ u) rm rt base c (L.set i (d, k2)) ∧ RFq T29 base w (w.setCell ⟨g, i * 9 + j, none⟩ u) ∧ (w.setCell ⟨g, i * 9 + j, none⟩ u).cell? ⟨rm, 6, none⟩ = some (.slice (some ⟨g, 0, none⟩) (L.set i (d, k2)).length cap) := by
  obtain ⟨hi, hx⟩ := ix_get hL
  obtain ⟨p1, q1⟩ := h.put hi hg j hj u d k2 (by rw [hx]) (by rw [hx]; exact hk)
  refine ⟨p1, q1, ?_⟩
  rw [List.length_set]
  refine (World.cell?_setCell_other _ _ _ _ (fun e => ?_)).trans hg
  obtain ⟨v, h1, h2, _⟩ := h
  have hv : v = .slice (some ⟨g, 0, none⟩) L.length cap := by have := h1.cell 6; rw [hg] at this; simpa using this.symm
  have := own_blk_ne h2 h1 (by decide)
  injection e with e1 _
  exact this (by rw [hv, e1]; rfl)
theorem rat_counts {w : World} {rm rt base : Nat} {c : Cfg} {L : List Ent} (h : RAt w rm rt base c L) {i : Nat} {d : Int} {k : Kn} (hL : L[i]? = some (d, k)) {g cap : Nat} (hg : w.cell? ⟨rm, 6, none⟩ = some (.slice (some ⟨g, 0, none⟩) L.length cap)) {l1 f1 d8 : Int}
    (e1 : wrap64 (8 * k.came) = 8 * k.came) (e2 : wrap64 (8 * k.came - k.gone) = l1) (e3 : k.gone.tdiv 8 = d8) (e4 : wrap64 d8 = d8) (e5 : wrap64 (c.room - k.came) = c.room - k.came) (e6 : wrap64 (c.room - k.came + d8) = f1) :
    Calls Tryz.prog 53 #[.pointer (some ⟨rm, 0, none⟩), .pointer (some ⟨g, i * 9, none⟩)] w fun e w' => (∃ u, e = .returned u) ∧ RAt w' rm rt base c (L.set i (d, { k with left := l1, free := f1 })) ∧ RFq T29 base w w' := by
  obtain ⟨g', cap', hg', hbg, hcell, hfr⟩ := h.cells hL
  have hgg : g' = g := by rw [hg] at hg'; simp at hg'; exact hg'.1.symm
  subst hgg
  have h3 : w.cell? ⟨rm, 3, none⟩ = some (.int .i64 c.room) := by obtain ⟨v, h1, _⟩ := h; exact h1.cell 3
  have hne : rm ≠ g' := fun e => by
    obtain ⟨v, h1, h2, _⟩ := h
    have hv : v = .slice (some ⟨g', 0, none⟩) L.length cap := by have := h1.cell 6; rw [hg] at this; simpa using this.symm
    have := own_blk_ne h2 h1 (by decide)
    exact this (by rw [e, hv]; rfl)
  refine (ref29_counts w rm g' (i * 9) k.came k.gone c.room k.left k.free l1 f1 d8 (hcell 0 (by decide)) (hcell 8 (by decide)) (hcell 4 (by decide)) (hcell 5 (by decide)) h3 hfr hne e1 e2 e3 e4 e5 e6).mono ?_
  rintro e w' ⟨hu, rfl⟩
  obtain ⟨p1, q1, c1⟩ := h.turn hL hg 4 (by decide) (.int .i64 l1) (k2 := { k with left := l1 }) rfl
  have hi := (ix_get hL).1
  obtain ⟨p2, q2, _⟩ := (p1.later (Below.refl _ _).drew).turn (d := d) (k := { k with left := l1 }) (i := i) (by simp [hi]) c1 5 (by decide) (.int .i64 f1) (k2 := { k with left := l1, free := f1 }) rfl
  rw [List.set_set] at p2
  exact ⟨hu, p2.later (Below.refl _ _).drew, q1.trans ((RFq.of_below (Below.refl _ _).drew).trans (q2.trans (RFq.of_below (Below.refl _ _).drew)))⟩
set_option maxRecDepth 100000 in
set_option maxHeartbeats 1000000 in
theorem ref29_Feed (w : World) (rm rt base : Nat) (c : Cfg) (L : List Ent) (h : RAt w rm rt base c L) {B : Int} (hk : ∀ x ∈ L, KnOk c B x.2) (hc : CfgOk c) (hB : B + 1048576 ≤ 2 ^ 45) (id n : Int) (hw : (Lit.int .i64 id).wf = true) :
    Calls Tryz.prog 28 #[.pointer (some ⟨rm, 0, none⟩), .int .i64 id, .int .i64 n] w fun e w' => e = .returned (.tuple #[.int .i64 (onL L id (fun k => feedF k n)).1, .int .i64 (onL L id (fun k => feedF k n)).2.1]) ∧ RAt w' rm rt base c (onL L id (fun k => feedF k n)).2.2 ∧ RFq T29 base w w' := by
  have CR := Lib.hid (ref29_refuses w rm rt base c L h id hw)
  have H := Lib.hid h
  by_cases hy : whyF L id = 0
  · obtain ⟨k, ha⟩ := why_live hy
    rw [hy] at CR
    obtain ⟨i, rfl, e0, hi, hL⟩ := ix_of ha
    have hko := hk (0, k) (List.mem_of_getElem? hL)
    have i0 : ¬ (i : Int) < 0 := by omega
    have i1 : (i : Int) < (L.length : Int) := by omega
    have hll : L.length ≤ 2147483647 := by obtain ⟨_, _, _, ⟨_, _, _, t3, _⟩, _⟩ := h; exact t3
    have w1 : wrap64 (i : Int) = (i : Int) := wrap64_id (by omega) (by omega)
    have HI := Lib.hid hi
    have HL := Lib.hid hL
    by_cases hn : n < 0
    · have g1 : decide (n < 0) = true := decide_eq_true hn
      have hF : onL L ((i : Int) + 1) (fun k => feedF k n) = (0, 3, L) := by rw [onL_no ha (by unfold feedF; rw [if_pos hn]; exact (by decide : (3 : Int) ≠ 0))]; unfold feedF; rw [if_pos hn]
      rw [hF]
      clear h hk hc hB hw hy ha e0 hi hL hko hll hn hF
      go_enter Tryz.func28, Tryz.ntmps28
      go_wp2_with (go_at_call 52; refine CR.out.mono ?_; rintro e w1 ⟨rfl, hb1⟩; have HR1 := Lib.hid (H.out.later hb1); have HB1 := Lib.hid hb1; obtain ⟨g, cap, c6, _, _, _⟩ := HR1.out.cells HL.out; clear hb1)
      go_returns
      exact ⟨rfl, HR1.out, RFq.of_below HB1.out⟩
    · have g1 : decide (n < 0) = false := decide_eq_false hn
      cases he : k.ended with
      | true =>
        have hF : onL L ((i : Int) + 1) (fun k => feedF k n) = (0, 20, L) := by rw [onL_no ha (by unfold feedF; rw [if_neg hn, if_pos he]; exact (by decide : (20 : Int) ≠ 0))]; unfold feedF; rw [if_neg hn, if_pos he]
        rw [hF]
        have HE := Lib.hid he
        clear h hk hc hB hw hy ha e0 hi hL hko hll hn hF he
        go_enter Tryz.func28, Tryz.ntmps28
        go_wp2_with (go_at_call 52; refine CR.out.mono ?_; rintro e w1 ⟨rfl, hb1⟩; have HR1 := Lib.hid (H.out.later hb1); have HB1 := Lib.hid hb1; obtain ⟨g, cap, c6, _, hcell, _⟩ := HR1.out.cells HL.out; have d1 := hcell 1 (by decide); simp only [knC, HE.out] at d1; clear hb1 hcell)
        go_returns
        exact ⟨rfl, HR1.out, RFq.of_below HB1.out⟩
      | false =>
        obtain ⟨t, ht⟩ : ∃ t, min n k.free = t := ⟨_, rfl⟩
        have hF : onL L ((i : Int) + 1) (fun k => feedF k n) = (t, 0, L.set i (0, fedK k t)) := by
          have hf : feedF k n = (t, 0, fedK k t) := by unfold feedF; rw [if_neg hn, if_neg (by rw [he]; decide), ht]
          rw [onL_ok ha (by rw [hf]), hf, e0]
        rw [hF]
        obtain ⟨ca, en, cz, q, l, f, fr, p, gn⟩ := k
        dsimp only at he ht hko
        subst he
        obtain ⟨b1, b2, b3, b4, b5, b6, b7, b8, b9, b10⟩ := hko
        dsimp only at b1 b2 b3 b4 b5 b6 b7
        have hr := hc.2.2.2.2.2.2.2.1
        have hr0 := hc.2.2.2.2.2.2.1
        have ht0 : 0 ≤ t ∧ t ≤ f := by omega
        have g2 : wrap64 (ca + t) = ca + t := wrap64_id (by omega) (by omega)
        have HAr := Lib.hid (show wrap64 (8 * (ca + t)) = 8 * (ca + t) ∧ wrap64 (8 * (ca + t) - gn) = l + 8 * t ∧ gn.tdiv 8 = gn / 8 ∧ wrap64 (gn / 8) = gn / 8 ∧ wrap64 (c.room - (ca + t)) = c.room - (ca + t) ∧ wrap64 (c.room - (ca + t) + gn / 8) = f - t from
          ⟨wrap64_id (by omega) (by omega), by rw [wrap64_id (by omega) (by omega)]; omega, Int.tdiv_eq_ediv_of_nonneg (by omega), wrap64_id (by omega) (by omega), wrap64_id (by omega) (by omega), by rw [wrap64_id (by omega) (by omega)]; omega⟩)
        clear h hk hc hB hw hy ha e0 hi hL hll hn hF b1 b2 b3 b4 b5 b6 b7 b8 b9 b10 hr hr0 ht0
        go_enter Tryz.func28, Tryz.ntmps28
        go_wp2_with (first
          | (go_at_call 52; refine CR.out.mono ?_; rintro e w1 ⟨rfl, hb1⟩; have HR1 := Lib.hid (H.out.later hb1); have HB1 := Lib.hid hb1; obtain ⟨g, cap, c6, _, hcell, hfr⟩ := HR1.out.cells HL.out; have d1 := hcell 1 (by decide); have d0 : w1.cell? ⟨g, i * 9, none⟩ = some (.int .i64 ca) := hcell 0 (by decide); have d5 := hcell 5 (by decide); simp only [knC] at d1 d5; have f0 := hfr (i * 9); have HT1 := Lib.hid (HR1.out.turn HL.out c6 0 (by decide) (.int .i64 (ca + t)) (k2 := ⟨ca + t, false, cz, q, l, f, fr, p, gn⟩) rfl); clear hb1 hcell hfr)
          | (go_at_call 53; refine (rat_counts HT1.out.1 (d := 0) (k := ⟨ca + t, false, cz, q, l, f, fr, p, gn⟩) (i := i) (by have := HI.out; simp [this]) HT1.out.2.2 HAr.out.1 HAr.out.2.1 HAr.out.2.2.1 HAr.out.2.2.2.1 HAr.out.2.2.2.2.1 HAr.out.2.2.2.2.2).mono ?_; rintro e w2 ⟨⟨u, rfl⟩, hr2, hf2⟩; have HR2 := Lib.hid hr2; have HF2 := Lib.hid hf2; clear hr2 hf2))
        go_returns
        have h2 := HR2.out
        rw [List.set_set] at h2
        exact ⟨rfl, h2, (RFq.of_below HB1.out).trans (HT1.out.2.1.trans HF2.out)⟩
  · rw [onL_why hy]
    have hyb : (whyF L id != 0) = true := bne_iff_ne.2 hy
    clear h hk hc hB hw hy
    go_enter Tryz.func28, Tryz.ntmps28
    go_wp2_with (go_at_call 52; refine CR.out.mono ?_; rintro e w1 ⟨rfl, hb1⟩; have HB1 := Lib.hid hb1; clear hb1)
    go_returns
    exact ⟨rfl, H.out.later HB1.out, RFq.of_below HB1.out⟩
set_option maxRecDepth 100000 in
set_option maxHeartbeats 1000000 in
theorem ref29_End (w : World) (rm rt base : Nat) (c : Cfg) (L : List Ent) (h : RAt w rm rt base c L) (id : Int) (hw : (Lit.int .i64 id).wf = true) :
    Calls Tryz.prog 30 #[.pointer (some ⟨rm, 0, none⟩), .int .i64 id] w fun e w' => e = .returned (.int .i64 (onL L id endF2).2.1) ∧ RAt w' rm rt base c (onL L id endF2).2.2 ∧ RFq T29 base w w' := by
  have CR := Lib.hid (ref29_refuses w rm rt base c L h id hw)
  have H := Lib.hid h
  by_cases hy : whyF L id = 0
  · obtain ⟨k, ha⟩ := why_live hy
    rw [hy] at CR
    obtain ⟨i, rfl, e0, hi, hL⟩ := ix_of ha
    have i0 : ¬ (i : Int) < 0 := by omega
    have i1 : (i : Int) < (L.length : Int) := by omega
    have hll : L.length ≤ 2147483647 := by obtain ⟨_, _, _, ⟨_, _, _, t3, _⟩, _⟩ := h; exact t3
    have w1 : wrap64 (i : Int) = (i : Int) := wrap64_id (by omega) (by omega)
    have HI := Lib.hid hi
    have HL := Lib.hid hL
    cases he : k.ended with
    | true =>
      have hE : (endF2 k).2.1 = 20 := by unfold endF2 endK; rw [if_pos he]
      have hF : onL L ((i : Int) + 1) endF2 = (0, 20, L) := by rw [onL_no ha (by rw [hE]; decide), hE]
      rw [hF]
      have HE := Lib.hid he
      clear h hw hy ha e0 hi hL hll hF he hE
      go_enter Tryz.func30, Tryz.ntmps30
      go_wp2_with (go_at_call 52; refine CR.out.mono ?_; rintro e w1 ⟨rfl, hb1⟩; have HR1 := Lib.hid (H.out.later hb1); have HB1 := Lib.hid hb1; obtain ⟨g, cap, c6, _, hcell, _⟩ := HR1.out.cells HL.out; have d1 := hcell 1 (by decide); simp only [knC, HE.out] at d1; clear hb1 hcell)
      go_returns
      exact ⟨rfl, HR1.out, RFq.of_below HB1.out⟩
    | false =>
      have hE : endF2 k = (0, 0, { k with ended := true }) := by unfold endF2 endK; rw [if_neg (by rw [he]; decide)]
      have hF : onL L ((i : Int) + 1) endF2 = (0, 0, L.set i (0, { k with ended := true })) := by rw [onL_ok ha (by rw [hE]), hE, e0]
      rw [hF]
      have HE := Lib.hid he
      clear h hw hy ha e0 hi hL hll hF he hE
      go_enter Tryz.func30, Tryz.ntmps30
      go_wp2_with (go_at_call 52; refine CR.out.mono ?_; rintro e w1 ⟨rfl, hb1⟩; have HR1 := Lib.hid (H.out.later hb1); have HB1 := Lib.hid hb1; obtain ⟨g, cap, c6, _, hcell, hfr⟩ := HR1.out.cells HL.out; have d1 := hcell 1 (by decide); simp only [knC, HE.out] at d1; have f1 := hfr (i * 9 + 1); have HT1 := Lib.hid (HR1.out.turn HL.out c6 1 (by decide) (.bool true) (k2 := { k with ended := true }) rfl); clear hb1 hcell hfr)
      go_returns
      exact ⟨rfl, HT1.out.1, (RFq.of_below HB1.out).trans HT1.out.2.1⟩
  · rw [onL_why hy]
    have hyb : (whyF L id != 0) = true := bne_iff_ne.2 hy
    clear h hw hy
    go_enter Tryz.func30, Tryz.ntmps30
    go_wp2_with (go_at_call 52; refine CR.out.mono ?_; rintro e w1 ⟨rfl, hb1⟩; have HB1 := Lib.hid hb1; clear hb1)
    go_returns
    exact ⟨rfl, H.out.later HB1.out, RFq.of_below HB1.out⟩
/-- the table's End, seen from the model. -/
theorem ref29_ends_at (w : World) (rm rt base : Nat) (c : Cfg) (L : List Ent) (h : RAt w rm rt base c L) (id cs : Int) (hc : cs ≠ 0) (k : Kn) (ha : atL L id = some (0, k)) :
    Calls Tryz.prog 55 #[.pointer (some ⟨rt, 0, none⟩), .int .i64 id, .int .i64 cs] w fun e w' => e = .returned (.int .i64 0) ∧ RAt w' rm rt base c (L.set (id - 1).toNat (cs, k)) ∧ RFq T26 base w w' := by
  obtain ⟨v, h1, h2, h3, h4⟩ := h
  refine (ref26_End_ok w rt base c.sess L h3 id cs hc k ha).mono ?_
  rintro e w' ⟨he, ht, hr⟩
  refine ⟨he, ⟨v, hr.blk h1 (by decide), ?_, ht, h4⟩, hr⟩
  have e1 : knL (L.set (id - 1).toNat (cs, k)) = knL L := by
    obtain ⟨i, rfl, e0, hi, hL⟩ := ix_of ha
    obtain ⟨hi', hx⟩ := ix_get hL
    rw [e0]
    unfold knL
    rw [List.map_set]
    have h5 : (cs, k).2 = (L.map (·.2))[i]'(by simpa using hi) := by simp [hx]
    rw [h5, List.set_getElem_self]
  rw [List.length_set, e1]
  exact own_same h2 (fun g cs _ hb => hr.blk hb (by decide))
theorem RAt.kept {w w' : World} {rm rt base : Nat} {c : Cfg} {L : List Ent} (h : RAt w rm rt base c L) {g n cap : Nat} (hg : w.cell? ⟨rm, 6, none⟩ = some (.slice (some ⟨g, 0, none⟩) n cap)) (hr : RFq T26 base w w') (j : Nat) : w'.cell? ⟨g, j, none⟩ = w.cell? ⟨g, j, none⟩ := by
  obtain ⟨v, h1, h2, _⟩ := h
  have hv : v = .slice (some ⟨g, 0, none⟩) n cap := by have := h1.cell 6; rw [hg] at this; simpa using this.symm
  subst hv
  rcases h2.2 with ⟨h3, _⟩ | ⟨g', cap', cur, h3, _, hh, _⟩
  · cases h3
  · cases h3
    have hb : Blk w g 74 cur := hh
    rw [(hr.blk hb (by decide)).cell, hb.cell]
set_option maxRecDepth 100000 in
set_option maxHeartbeats 1000000 in
theorem ref29_Drain (w : World) (rm rt base : Nat) (c : Cfg) (L : List Ent) (h : RAt w rm rt base c L) {B : Int} (hk : ∀ x ∈ L, KnOk c B x.2) (hq : ∀ x ∈ L, x.2.queued ≤ 9223372036854775807) (id : Int) (hw : (Lit.int .i64 id).wf = true) :
    Calls Tryz.prog 32 #[.pointer (some ⟨rm, 0, none⟩), .int .i64 id] w fun e w' => e = .returned (.int .i64 (drainL L id).1) ∧ RAt w' rm rt base c (drainL L id).2 ∧ RFq T29 base w w' := by
  have CR := Lib.hid (ref29_refuses w rm rt base c L h id hw)
  have H := Lib.hid h
  by_cases hy : whyF L id = 0
  · obtain ⟨k, ha⟩ := why_live hy
    rw [hy] at CR
    obtain ⟨i, rfl, e0, hi, hL⟩ := ix_of ha
    have i0 : ¬ (i : Int) < 0 := by omega
    have i1 : (i : Int) < (L.length : Int) := by omega
    have hll : L.length ≤ 2147483647 := by obtain ⟨_, _, _, ⟨_, _, _, t3, _⟩, _⟩ := h; exact t3
    have w1 : wrap64 (i : Int) = (i : Int) := wrap64_id (by omega) (by omega)
    have w2 : IntKind.i64.wrap (i : Int) = (i : Int) := by rw [IntKind.wrap_i64]; omega
    have HI := Lib.hid hi
    have HL := Lib.hid hL
    have hq0 := (hk (0, k) (List.mem_of_getElem? hL)).2.2.2.2.2.2.2.1
    have hq1 := hq (0, k) (List.mem_of_getElem? hL)
    obtain ⟨ca, en, cz, q, l, f, fr, p, gn⟩ := k
    dsimp only at hq0 hq1
    by_cases hqp : 0 < q
    · have g1 : decide (0 < q) = true := decide_eq_true hqp
      have hF : drainL L ((i : Int) + 1) = (0, L.set i (0, ⟨ca, en, cz, q - 1, l, f, fr, p, gn⟩)) := by
        unfold drainL
        rw [ha]
        dsimp only
        have hd : drainK ⟨ca, en, cz, q, l, f, fr, p, gn⟩ = (0, ⟨ca, en, cz, q - 1, l, f, fr, p, gn⟩, ⟨ca, en, cz, q, l, f, fr, p, gn⟩) := by
          unfold drainK
          rw [if_neg (by dsimp only; omega)]
          have e : max (q - 1) 0 = q - 1 := by omega
          dsimp only
          rw [e]
        rw [if_neg (by simp), hd]
        dsimp only
        rw [if_neg (by simp), if_pos hqp, e0]
      rw [hF]
      have g3 : wrap64 (q - 1) = q - 1 := wrap64_id (by omega) (by omega)
      clear h hk hq hw hy ha e0 hi hL hll hF hq0 hq1 hqp
      go_enter Tryz.func32, Tryz.ntmps32
      go_wp2_with (go_at_call 52; refine CR.out.mono ?_; rintro e w1 ⟨rfl, hb1⟩; have HR1 := Lib.hid (H.out.later hb1); have HB1 := Lib.hid hb1; obtain ⟨g, cap, c6, _, hcell, hfr⟩ := HR1.out.cells HL.out; have d3 := hcell 3 (by decide); simp only [knC] at d3; have f3 := hfr (i * 9 + 3); have HT1 := Lib.hid (HR1.out.turn HL.out c6 3 (by decide) (.int .i64 (q - 1)) (k2 := ⟨ca, en, cz, q - 1, l, f, fr, p, gn⟩) rfl); clear hb1 hcell hfr)
      go_returns
      exact ⟨rfl, HT1.out.1, (RFq.of_below HB1.out).trans HT1.out.2.1⟩
    · have g1 : decide (0 < q) = false := decide_eq_false hqp
      have hqz : q = 0 := by omega
      subst hqz
      by_cases hcz : cz = 0
      · subst hcz
        have hF : drainL L ((i : Int) + 1) = (16, L) := by
          unfold drainL
          rw [ha]
          dsimp only
          have hd : drainK ⟨ca, en, 0, 0, l, f, fr, p, gn⟩ = (16, ⟨ca, en, 0, 0, l, f, fr, p, gn⟩, Kn.zero) := by unfold drainK; rw [if_pos ⟨rfl, rfl⟩]
          rw [if_neg (by simp), hd]
          rfl
        rw [hF]
        clear h hk hq hw hy ha e0 hi hL hll hF hq0 hq1 hqp
        go_enter Tryz.func32, Tryz.ntmps32
        go_wp2_with (go_at_call 52; refine CR.out.mono ?_; rintro e w1 ⟨rfl, hb1⟩; have HR1 := Lib.hid (H.out.later hb1); have HB1 := Lib.hid hb1; obtain ⟨g, cap, c6, _, hcell, hfr⟩ := HR1.out.cells HL.out; have d3 := hcell 3 (by decide); have d2 := hcell 2 (by decide); simp only [knC] at d3 d2; clear hb1 hcell hfr)
        go_returns
        exact ⟨rfl, HR1.out, RFq.of_below HB1.out⟩
      · have g2 : (cz == 0) = false := beq_eq_false_iff_ne.2 hcz
        have hF : drainL L ((i : Int) + 1) = (cz, L.set i (cz, ⟨ca, en, cz, 0, l, f, fr, p, gn⟩)) := by
          unfold drainL
          rw [ha]
          dsimp only
          have hd : drainK ⟨ca, en, cz, 0, l, f, fr, p, gn⟩ = (0, ⟨ca, en, cz, 0, l, f, fr, p, gn⟩, ⟨ca, en, cz, 0, l, f, fr, p, gn⟩) := by
            unfold drainK
            rw [if_neg (by dsimp only; omega)]
            rfl
          rw [if_neg (by simp), hd]
          dsimp only
          rw [if_neg (by simp), if_neg (by omega), e0]
        rw [hF]
        have CE := Lib.hid (fun W (hW : RAt W rm rt base c L) => ref29_ends_at W rm rt base c L hW ((i : Int) + 1) cz hcz _ ha)
        rw [e0] at CE
        clear h hk hq hw hy ha e0 hi hL hll hF hq0 hq1 hqp hcz
        go_enter Tryz.func32, Tryz.ntmps32
        go_wp2_with (go_at_call 52; refine CR.out.mono ?_; rintro e w1 ⟨rfl, hb1⟩; have HR1 := Lib.hid (H.out.later hb1); have HB1 := Lib.hid hb1; obtain ⟨g, cap, c6, _, hcell, hfr⟩ := HR1.out.cells HL.out; have d3 := hcell 3 (by decide); have d2 := hcell 2 (by decide); simp only [knC] at d3 d2; have HCS := Lib.hid hcell; have c5 : w1.cell? ⟨rm, 5, none⟩ = some (.pointer (some ⟨rt, 0, none⟩)) := by { obtain ⟨v, h1, _⟩ := HR1.out; exact h1.cell 5 }; clear hb1 hcell hfr)
        have HC6 := Lib.hid c6
        refine wp_region_plan2 (fun W => W.cell? ⟨rm, 5, none⟩ = some (.pointer (some ⟨rt, 0, none⟩)) ∧ W.cell? ⟨g, i * 9 + 2, none⟩ = some (.int .i64 cz)) 9 [(0, true), (1, true), (2, true), (3, true), (4, true), (5, true), (6, true), (7, true), (8, true)] (by kernel_rfl) (by kernel_rfl) (fun _ _ d _ _ h => by cases d <;> exact h) (by decide) (by simp only [List.map_cons, List.map_nil, Array.getD_eq_getD_getElem?, List.getElem?_toArray, List.getElem?_cons_zero, List.getElem?_cons_succ, Option.getD_some]; rfl) (by simp only [List.map_cons, List.map_nil]; rfl) (⟨c5, d2⟩) (fun PE hPE => ?_)
        refine plan_take (v := ?_) rfl (by rfl) ?_ ?_
        rotate_left
        · intro _ hSw; (try dsimp only at hSw); go_simp; (try with_reducible rfl)
        simp only [List.setIfInBounds_toArray, List.set_cons_zero, List.set_cons_succ]
        refine plan_take (v := ?_) rfl (by rfl) ?_ ?_
        rotate_left
        · intro _ hSw; (try dsimp only at hSw); go_simp; (try with_reducible rfl)
        simp only [List.setIfInBounds_toArray, List.set_cons_zero, List.set_cons_succ]
        refine plan_take (v := ?_) rfl (by rfl) ?_ ?_
        rotate_left
        · intro _ hSw; (try dsimp only at hSw); go_simp; (try with_reducible rfl)
        simp only [List.setIfInBounds_toArray, List.set_cons_zero, List.set_cons_succ]
        refine plan_take (v := ?_) rfl (by rfl) ?_ ?_
        rotate_left
        · intro _ hSw; (try dsimp only at hSw); have q1 := hSw.1; go_simp; (try with_reducible rfl)
        simp only [List.setIfInBounds_toArray, List.set_cons_zero, List.set_cons_succ]
        refine plan_take (v := ?_) rfl (by rfl) ?_ ?_
        rotate_left
        · intro _ hSw; (try dsimp only at hSw); go_simp; (try with_reducible rfl)
        simp only [List.setIfInBounds_toArray, List.set_cons_zero, List.set_cons_succ]
        refine plan_take (v := ?_) rfl (by rfl) ?_ ?_
        rotate_left
        · intro _ hSw; (try dsimp only at hSw); go_simp; (try with_reducible rfl)
        simp only [List.setIfInBounds_toArray, List.set_cons_zero, List.set_cons_succ]
        refine plan_take (v := ?_) rfl (by rfl) ?_ ?_
        rotate_left
        · intro _ hSw; (try dsimp only at hSw); go_simp; (try with_reducible rfl)
        simp only [List.setIfInBounds_toArray, List.set_cons_zero, List.set_cons_succ]
        refine plan_take (v := ?_) rfl (by rfl) ?_ ?_
        rotate_left
        · intro _ hSw; (try dsimp only at hSw); go_simp; (try with_reducible rfl)
        simp only [List.setIfInBounds_toArray, List.set_cons_zero, List.set_cons_succ]
        refine plan_take (v := ?_) rfl (by rfl) ?_ ?_
        rotate_left
        · intro _ hSw; (try dsimp only at hSw); have q1 := hSw.2; go_simp; (try with_reducible rfl)
        simp only [List.setIfInBounds_toArray, List.set_cons_zero, List.set_cons_succ]
        (refine hPE _ _ ?_; simp only [List.drop_succ_cons, List.drop_zero]; clear hPE PE)
        have hB1 : Below w1.heap.size w1 w1.drew := (Below.refl _ _).drew
        have HRD := Lib.hid (HR1.out.later hB1)
        have HC7 := Lib.hid (show w1.drew.cell? ⟨rm, 6, none⟩ = some (.slice (some ⟨g, 0, none⟩) L.length cap) from c6)
        have HD2 := Lib.hid (show w1.drew.cell? ⟨g, i * 9 + 2, none⟩ = some (.int .i64 cz) from d2)
        have HBB := Lib.hid ((RFq.of_below (T := T29) (base := base) HB1.out).trans (RFq.of_below hB1))
        clear c6 c5 d2 d3 hB1 HC6 HCS
        generalize w1.drew = V at HRD HC7 HD2 HBB ⊢
        go_wp2_with (go_at_call 55; refine (CE.out V HRD.out).mono ?_; rintro e w2 ⟨rfl, hr2, hf2⟩; have d2 := (HRD.out.kept HC7.out hf2 (i * 9 + 2)).trans HD2.out; have HR2 := Lib.hid hr2; have HF2 := Lib.hid (hf2.to (fun t => T26.to29)); clear hr2 hf2)
        go_returns
        exact ⟨rfl, HR2.out, HBB.out.trans HF2.out⟩
  · rw [drainL_why hy]
    have hyb : (whyF L id != 0) = true := bne_iff_ne.2 hy
    clear h hk hq hw hy
    go_enter Tryz.func32, Tryz.ntmps32
    go_wp2_with (go_at_call 52; refine CR.out.mono ?_; rintro e w1 ⟨rfl, hb1⟩; have HB1 := Lib.hid hb1; clear hb1)
    go_returns
    exact ⟨rfl, H.out.later HB1.out, RFq.of_below HB1.out⟩
end Go.Proofs.YtklelheejopfmaaGreat
namespace Go.Proofs.YtklelheejopfmaaGreat
open Go Go.RowKit Go.Maps
attribute [local go_sem] Oper.semAt_some
set_option maxRecDepth 100000 in
theorem ref29_ends (w : World) (rm rt base : Nat) (c : Cfg) (L : List Ent) (h : RAt w rm rt base c L) (id cs : Int) (hw : (Lit.int .i64 id).wf = true) (hc : cs ≠ 0) :
    Calls Tryz.prog 57 #[.pointer (some ⟨rm, 0, none⟩), .int .i64 id, .int .i64 cs] w fun e w' => e = .returned (.int .i64 (outL L id cs).1) ∧ RAt w' rm rt base c (outL L id cs).2 ∧ RFq T29 base w w' := by
  have CR := Lib.hid (ref29_refuses w rm rt base c L h id hw)
  have H := Lib.hid h
  by_cases hy : whyF L id = 0
  · obtain ⟨k, ha⟩ := why_live hy
    rw [hy] at CR
    rw [outL_live ha]
    have CE := Lib.hid (fun W (hW : RAt W rm rt base c L) => ref29_ends_at W rm rt base c L hW id cs hc _ ha)
    clear h hw hc hy ha
    go_enter Tryz.func57, Tryz.ntmps57
    go_wp2_with (first
      | (go_at_call 52; refine CR.out.mono ?_; rintro e w1 ⟨rfl, hb1⟩; have HR1 := Lib.hid (H.out.later hb1); have HB1 := Lib.hid hb1; have c5 : w1.cell? ⟨rm, 5, none⟩ = some (.pointer (some ⟨rt, 0, none⟩)) := by { obtain ⟨v, h1, _⟩ := HR1.out; exact h1.cell 5 }; clear hb1)
      | (go_at_call 55; refine (CE.out _ HR1.out).mono ?_; rintro e w2 ⟨rfl, hr2, hf2⟩; have HR2 := Lib.hid hr2; have HF2 := Lib.hid (hf2.to (fun t => T26.to29)); clear hr2 hf2))
    go_returns
    exact ⟨rfl, HR2.out, (RFq.of_below HB1.out).trans HF2.out⟩
  · rw [outL_why hy]
    have hyb : (whyF L id == 0) = false := beq_eq_false_iff_ne.2 hy
    clear h hw hc hy
    go_enter Tryz.func57, Tryz.ntmps57
    go_wp2_with (go_at_call 52; refine CR.out.mono ?_; rintro e w1 ⟨rfl, hb1⟩; have HB1 := Lib.hid hb1; clear hb1)
    go_returns
    exact ⟨rfl, H.out.later HB1.out, RFq.of_below HB1.out⟩
theorem ref29_Close (w : World) (rm rt base : Nat) (c : Cfg) (L : List Ent) (h : RAt w rm rt base c L) (id : Int) (hw : (Lit.int .i64 id).wf = true) :
    Calls Tryz.prog 34 #[.pointer (some ⟨rm, 0, none⟩), .int .i64 id] w fun e w' => e = .returned (.int .i64 (outL L id 21).1) ∧ RAt w' rm rt base c (outL L id 21).2 ∧ RFq T29 base w w' := by
  have CO := Lib.hid (ref29_ends w rm rt base c L h id 21 hw (by decide))
  clear h hw
  go_enter Tryz.func34, Tryz.ntmps34
  go_wp2_with (go_at_call 57; refine CO.out.mono ?_; rintro e w1 ⟨rfl, hr⟩; have HR := Lib.hid hr; clear hr)
  go_ret
  exact ⟨rfl, HR.out⟩
theorem ref29_Evict (w : World) (rm rt base : Nat) (c : Cfg) (L : List Ent) (h : RAt w rm rt base c L) (id : Int) (hw : (Lit.int .i64 id).wf = true) :
    Calls Tryz.prog 36 #[.pointer (some ⟨rm, 0, none⟩), .int .i64 id] w fun e w' => e = .returned (.int .i64 (outL L id 22).1) ∧ RAt w' rm rt base c (outL L id 22).2 ∧ RFq T29 base w w' := by
  have CO := Lib.hid (ref29_ends w rm rt base c L h id 22 hw (by decide))
  clear h hw
  go_enter Tryz.func36, Tryz.ntmps36
  go_wp2_with (go_at_call 57; refine CO.out.mono ?_; rintro e w1 ⟨rfl, hr⟩; have HR := Lib.hid hr; clear hr)
  go_ret
  exact ⟨rfl, HR.out⟩
set_option maxRecDepth 100000 in
set_option maxHeartbeats 1000000 in
theorem ref29_Status (w : World) (rm rt base : Nat) (c : Cfg) (L : List Ent) (h : RAt w rm rt base c L) (id : Int) (hw : (Lit.int .i64 id).wf = true) :
    Calls Tryz.prog 9 #[.pointer (some ⟨rm, 0, none⟩), .int .i64 id] w fun e w' => e = .returned (.tuple #[(statF L id).1, .int .i64 (statF L id).2]) ∧ Below w.heap.size w w' := by
  have hb0 : Below w.heap.size w (w.alloc (.cells #[.int .i64 0, .int .i64 0, .int .i64 0, .int .i64 0, .int .i64 0, .int .i64 0, .int .i64 0] 35)) := (Below.refl _ _).alloc (Nat.le_refl _) _
  have H := Lib.hid (h.later hb0)
  have HB0 := Lib.hid hb0
  have m5 : (w.alloc (.cells #[.int .i64 0, .int .i64 0, .int .i64 0, .int .i64 0, .int .i64 0, .int .i64 0, .int .i64 0] 35)).cell? ⟨rm, 5, none⟩ = some (.pointer (some ⟨rt, 0, none⟩)) := by obtain ⟨v, h1, _⟩ := H.out; exact h1.cell 5
  have CC : Hid (Calls Tryz.prog 41 #[.pointer (some ⟨rt, 0, none⟩), .int .i64 id] (w.alloc (.cells #[.int .i64 0, .int .i64 0, .int .i64 0, .int .i64 0, .int .i64 0, .int .i64 0, .int .i64 0] 35)) fun e w' => e = .returned (.tuple #[.int .i64 (causeF L id).1, .int .i64 (causeF L id).2]) ∧ Below (w.alloc (.cells #[.int .i64 0, .int .i64 0, .int .i64 0, .int .i64 0, .int .i64 0, .int .i64 0, .int .i64 0] 35)).heap.size (w.alloc (.cells #[.int .i64 0, .int .i64 0, .int .i64 0, .int .i64 0, .int .i64 0, .int .i64 0, .int .i64 0] 35)) w') := Lib.hid (by obtain ⟨v, _, _, h3, _⟩ := H.out; exact ref26_Cause _ rt base c.sess L h3 id hw)
  have HR := Lib.hid (Blk.new w 35 #[.int .i64 0, .int .i64 0, .int .i64 0, .int .i64 0, .int .i64 0, .int .i64 0, .int .i64 0])
  have hll : L.length ≤ 2147483647 := by obtain ⟨_, _, _, ⟨_, _, _, t3, _⟩, _⟩ := h; exact t3
  unfold causeF at CC
  obtain ⟨r, hr⟩ : ∃ r, statF L id = r := ⟨_, rfl⟩
  rw [hr]
  unfold statF at hr
  clear hb0 hw
  cases ha : atL L id with
  | none =>
    rw [ha] at CC hr
    dsimp only at CC hr
    subst hr
    clear ha h
    go_enter Tryz.func9, Tryz.ntmps9
    go_wp2_with (go_at_call 41; refine CC.out.mono ?_; rintro e w1 ⟨rfl, hb1⟩; have hr := HR.out.below hb1 HR.out.lt; have r0 := hr.cell 0; have r1 := hr.cell 1; have r2 := hr.cell 2; have r3 := hr.cell 3; have r4 := hr.cell 4; have r5 := hr.cell 5; have r6 := hr.cell 6; have f0 := hr.frozen 0; have f1 := hr.frozen 1; have f2 := hr.frozen 2; have f3 := hr.frozen 3; have f4 := hr.frozen 4; have f5 := hr.frozen 5; have f6 := hr.frozen 6; have HR1 := Lib.hid hr; have HB1 := Lib.hid (HB0.out.trans (hb1.mono HB0.out.size)); clear hr hb1)
    have hZ := set7_blk HR1.out (.int .i64 0) (.int .i64 0) (.int .i64 0) (.int .i64 0) (.int .i64 0) (.int .i64 0) (.int .i64 0)
    have z0 := hZ.cell 0; have z1 := hZ.cell 1; have z2 := hZ.cell 2; have z3 := hZ.cell 3; have z4 := hZ.cell 4; have z5 := hZ.cell 5; have z6 := hZ.cell 6
    refine bodyPost_ret (by simp [results, Tryz.results9, go_sem, z0, z1, z2, z3, z4, z5, z6]; try rfl) rfl ?_
    exact ⟨rfl, set7_below HB1.out (Nat.le_refl _) _ _ _ _ _ _ _⟩
  | some x =>
    obtain ⟨d, k⟩ := x
    rw [ha] at CC hr
    dsimp only at CC hr
    obtain ⟨i, rfl, e0, hi, hL⟩ := ix_of ha
    have i0 : ¬ (i : Int) < 0 := by omega
    have i1 : (i : Int) < (L.length : Int) := by omega
    have w2 : IntKind.i64.wrap (i : Int) = (i : Int) := by rw [IntKind.wrap_i64]; omega
    have HL := Lib.hid hL
    by_cases hd : d = 0
    · subst hd
      rw [if_neg (by simp)] at hr
      subst hr
      obtain ⟨ca, en, cz, q, l, f, fr, p, g⟩ := k
      clear ha h e0 hi hL hll
      go_enter Tryz.func9, Tryz.ntmps9
      go_wp2_with (go_at_call 41; refine CC.out.mono ?_; rintro e w1 ⟨rfl, hb1⟩; have hr := HR.out.below hb1 HR.out.lt; have r0 := hr.cell 0; have r1 := hr.cell 1; have r2 := hr.cell 2; have r3 := hr.cell 3; have r4 := hr.cell 4; have r5 := hr.cell 5; have r6 := hr.cell 6; have f0 := hr.frozen 0; have f1 := hr.frozen 1; have f2 := hr.frozen 2; have f3 := hr.frozen 3; have f4 := hr.frozen 4; have f5 := hr.frozen 5; have f6 := hr.frozen 6; have HR1 := Lib.hid hr; have HB1 := Lib.hid (HB0.out.trans (hb1.mono HB0.out.size)); obtain ⟨gg, cap, c6, _, hcell, _⟩ := (H.out.later hb1).cells HL.out; have k2 := hcell 2 (by decide); have k3 := hcell 3 (by decide); have k4 := hcell 4 (by decide); have k5 := hcell 5 (by decide); have k6 := hcell 6 (by decide); have k7 := hcell 7 (by decide); have k8 := hcell 8 (by decide); simp only [knC] at k2 k3 k4 k5 k6 k7 k8; clear hr hb1 hcell)
      have hZ := set7_blk HR1.out (.int .i64 cz) (.int .i64 q) (.int .i64 l) (.int .i64 f) (.int .i64 fr) (.int .i64 p) (.int .i64 g)
      have z0 := hZ.cell 0; have z1 := hZ.cell 1; have z2 := hZ.cell 2; have z3 := hZ.cell 3; have z4 := hZ.cell 4; have z5 := hZ.cell 5; have z6 := hZ.cell 6
      refine bodyPost_ret (by simp [results, Tryz.results9, go_sem, z0, z1, z2, z3, z4, z5, z6]; try rfl) rfl ?_
      exact ⟨rfl, set7_below HB1.out (Nat.le_refl _) _ _ _ _ _ _ _⟩
    · rw [if_pos hd] at hr
      subst hr
      have hdb : (d != 0) = true := bne_iff_ne.2 hd
      clear ha h hd e0 hi hL hll
      go_enter Tryz.func9, Tryz.ntmps9
      go_wp2_with (go_at_call 41; refine CC.out.mono ?_; rintro e w1 ⟨rfl, hb1⟩; have hr := HR.out.below hb1 HR.out.lt; have r0 := hr.cell 0; have r1 := hr.cell 1; have r2 := hr.cell 2; have r3 := hr.cell 3; have r4 := hr.cell 4; have r5 := hr.cell 5; have r6 := hr.cell 6; have f0 := hr.frozen 0; have f1 := hr.frozen 1; have f2 := hr.frozen 2; have f3 := hr.frozen 3; have f4 := hr.frozen 4; have f5 := hr.frozen 5; have f6 := hr.frozen 6; have HR1 := Lib.hid hr; have HB1 := Lib.hid (HB0.out.trans (hb1.mono HB0.out.size)); clear hr hb1)
      have hZ := set7_blk HR1.out (.int .i64 d) (.int .i64 0) (.int .i64 0) (.int .i64 0) (.int .i64 0) (.int .i64 0) (.int .i64 0)
      have z0 := hZ.cell 0; have z1 := hZ.cell 1; have z2 := hZ.cell 2; have z3 := hZ.cell 3; have z4 := hZ.cell 4; have z5 := hZ.cell 5; have z6 := hZ.cell 6
      refine bodyPost_ret (by simp [results, Tryz.results9, go_sem, z0, z1, z2, z3, z4, z5, z6]; try rfl) rfl ?_
      exact ⟨rfl, set7_below HB1.out (Nat.le_refl _) _ _ _ _ _ _ _⟩
end Go.Proofs.YtklelheejopfmaaGreat
