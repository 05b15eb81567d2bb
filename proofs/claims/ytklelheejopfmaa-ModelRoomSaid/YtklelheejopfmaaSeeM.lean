/- package model: See. -/
import Derived.Test.YtklelheejopfmaaSee
import Derived.Test.YtklelheejopfmaaMeth
namespace Go.Proofs.Ytklelheejopfmaa
open Go Go.RowKit Go.Maps
attribute [local go_sem] Oper.semAt_some
def seeF (c : Cfg) (s k : Kn) : Int × Int × Kn := (0, if SeeOk c k.came k.cause k.pics k.gone s.cause s.queued s.left s.free s.frames s.pics s.gone then 0 else 2, { s with came := k.came, ended := k.ended })
theorem see_ok {c : Cfg} (hc : CfgOk c) {B : Int} (hB : B ≤ 2 ^ 45) {s k : Kn} (hk : KnOk c B k) (h : (seeF c s k).2.1 = 0) : KnOk c B (seeF c s k).2.2 := by
  have h0 : SeeOk c k.came k.cause k.pics k.gone s.cause s.queued s.left s.free s.frames s.pics s.gone := by
    by_cases hs : SeeOk c k.came k.cause k.pics k.gone s.cause s.queued s.left s.free s.frames s.pics s.gone
    · exact hs
    · unfold seeF at h; dsimp only at h; rw [if_neg hs] at h; cases h
  obtain ⟨⟨a1, a2⟩, ⟨b1, b2⟩, ⟨c1, c2⟩, ⟨d1, d2⟩, _⟩ := h0
  obtain ⟨h1, h2, h3, h4, h5, h6, h7, h8, h9, h10⟩ := hk
  have hr := hc.2.2.2.2.2.2.2.1
  have hr0 := hc.2.2.2.2.2.2.1
  have e1 : wrap64 (8 * k.came) = 8 * k.came := by unfold wrap64; omega
  have e2 : wrap64 (8 * k.came - s.gone) = 8 * k.came - s.gone := by unfold wrap64; omega
  have e3 : s.gone.tdiv 8 = s.gone / 8 := Int.tdiv_eq_ediv_of_nonneg (by omega)
  have e4 : wrap64 (s.gone / 8) = s.gone / 8 := by unfold wrap64; omega
  have e5 : wrap64 (c.room - k.came) = c.room - k.came := by unfold wrap64; omega
  have e6 : wrap64 (c.room - k.came + s.gone / 8) = c.room - k.came + s.gone / 8 := by unfold wrap64; omega
  rw [e1, e2] at a1
  rw [e5, e3, e4, e6] at a2
  refine ⟨?_, b2, h3, h4, a1.symm, a2.symm, ?_, c1, d1, d2⟩
  · show 0 ≤ s.gone; omega
  · show 0 ≤ s.free; omega
set_option maxRecDepth 100000 in
theorem mod_See (w : World) (bm bt tb lb : Nat) (c : Cfg) (B : Int) (L : List Ent) (h : MAt w bm bt tb lb c B L) (id : Int) (hw : (Lit.int .i64 id).wf = true) (s : Kn) :
    Calls Try.prog 7 #[.pointer (some ⟨bm, 0, none⟩), .int .i64 id, s.seen] w fun e w' => e = .returned (.int .i64 (onL L id (seeF c s)).2.1) ∧ MAt w' bm bt tb lb c B (onL L id (seeF c s)).2.2 ∧ Only [lb] w w' := by
  have hb0 : Below w.heap.size w ((w.alloc (.cells #[.pointer (some ⟨bm, 0, none⟩)] 22)).alloc (.cells #[.int .i64 s.cause, .int .i64 s.queued, .int .i64 s.left, .int .i64 s.free, .int .i64 s.frames, .int .i64 s.pics, .int .i64 s.gone] 27)) := ((Below.refl _ _).alloc (Nat.le_refl _) _).alloc (by simp) _
  have hp := (Blk.new w 22 #[.pointer (some ⟨bm, 0, none⟩)]).alloc (.cells #[.int .i64 s.cause, .int .i64 s.queued, .int .i64 s.left, .int .i64 s.free, .int .i64 s.frames, .int .i64 s.pics, .int .i64 s.gone] 27)
  have hn := (Blk.new (w.alloc (.cells #[.pointer (some ⟨bm, 0, none⟩)] 22)) 27 #[.int .i64 s.cause, .int .i64 s.queued, .int .i64 s.left, .int .i64 s.free, .int .i64 s.frames, .int .i64 s.pics, .int .i64 s.gone]).at_eq (World.size_alloc w _)
  have hm := h.later hb0
  have HB0 := Lib.hid hb0
  have HE := Lib.hid h
  by_cases hy : whyF L id = 0
  · obtain ⟨k, ha⟩ := why_live hy
    have hk := h.kn ha
    have hC : ∀ W, Below ((w.alloc (.cells #[.pointer (some ⟨bm, 0, none⟩)] 22)).alloc (.cells #[.int .i64 s.cause, .int .i64 s.queued, .int .i64 s.left, .int .i64 s.free, .int .i64 s.frames, .int .i64 s.pics, .int .i64 s.gone] 27)).heap.size ((w.alloc (.cells #[.pointer (some ⟨bm, 0, none⟩)] 22)).alloc (.cells #[.int .i64 s.cause, .int .i64 s.queued, .int .i64 s.left, .int .i64 s.free, .int .i64 s.frames, .int .i64 s.pics, .int .i64 s.gone] 27)) W →
        Calls Try.prog 25 #[k.val, .pointer (some ⟨w.heap.size + 1, 0, none⟩), .pointer (some ⟨w.heap.size, 0, none⟩)] W fun e w' => e = .returned (.tuple #[(seeF c s k).2.2.val, .int .i64 0, .int .i64 (seeF c s k).2.1]) ∧ Below W.heap.size W w' := fun W hW =>
      mod_See1 W bm bt tb lb _ _ c B L (hm.later hW) k.came k.ended k.cause k.queued k.left k.free k.frames k.pics k.gone s.cause s.queued s.left s.free s.frames s.pics s.gone hk (hn.below hW hn.lt) (hp.below hW hp.lt)
    by_cases he : (seeF c s k).2.1 = 0
    · rw [onL_ok ha he]
      have CA := Lib.hid (ask_See_ok _ bm bt tb lb (w.heap.size + 1) w.heap.size c B L hm id hw k (seeF c s k).2.2 ha 0 B (by omega) h.2.2.2.2.2.2.2 (see_ok h.2.2.2.2.1 h.2.2.2.2.2.2.2 hk he) (by rw [he] at hC; exact hC))
      clear h hm hp hn hC hk ha hy hb0
      go_enter Try.func7, Try.ntmps7
      go_wp2_with (go_at_call 24; refine CA.out.mono ?_; rintro e w1 ⟨rfl, hm1, ho1⟩; have HM1 := Lib.hid hm1; have HO1 := Lib.hid ho1; clear hm1 ho1)
      go_ret
      exact ⟨rfl, HM1.out, (Only.of_below HB0.out).trans HO1.out⟩
    · rw [onL_no ha he]
      have CA := Lib.hid (ask_See_no _ bm bt tb lb (w.heap.size + 1) w.heap.size c B L hm id hw k (seeF c s k).2.2 ha 0 (seeF c s k).2.1 he hC)
      clear h hm hp hn hC hk ha hy hb0
      go_enter Try.func7, Try.ntmps7
      go_wp2_with (go_at_call 24; refine CA.out.mono ?_; rintro e w1 ⟨rfl, hb1⟩; have HB1 := Lib.hid (HB0.out.trans (hb1.mono HB0.out.size)); clear hb1)
      go_ret
      exact ⟨rfl, HE.out.later HB1.out, Only.of_below HB1.out⟩
  · rw [onL_why hy]
    have CA := Lib.hid (fun fv => ask_why _ bm bt tb lb c B L hm id hw fv hy)
    clear h hm hp hn hy hb0
    go_enter Try.func7, Try.ntmps7
    go_wp2_with (go_at_call 24; refine (CA.out _).mono ?_; rintro e w1 ⟨rfl, hb1⟩; have HB1 := Lib.hid (HB0.out.trans (hb1.mono HB0.out.size)); clear hb1)
    go_ret
    exact ⟨rfl, HE.out.later HB1.out, Only.of_below HB1.out⟩
end Go.Proofs.Ytklelheejopfmaa
