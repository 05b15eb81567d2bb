/- package model: Feed, End, See, Close, Evict. -/
import Derived.Test.YtklelheejopfmaaAsk
namespace Go.Proofs.Ytklelheejopfmaa
open Go Go.RowKit Go.Maps
attribute [local go_sem] Oper.semAt_some
theorem MAt.mono {w : World} {bm bt tb lb : Nat} {c : Cfg} {B B' : Int} {L : List Ent} (h : MAt w bm bt tb lb c B L) (hB : B ≤ B') (hB' : B' ≤ 2 ^ 45) : MAt w bm bt tb lb c B' L :=
  ⟨h.1, h.2.1, h.2.2.1, h.2.2.2.1, h.2.2.2.2.1, fun x hx => (h.2.2.2.2.2.1 x hx).mono hB, h.2.2.2.2.2.2.1, hB'⟩
theorem MAt.kn {w : World} {bm bt tb lb : Nat} {c : Cfg} {B : Int} {L : List Ent} (h : MAt w bm bt tb lb c B L) {id : Int} {x : Ent} (ha : atL L id = some x) : KnOk c B x.2 := by
  unfold atL at ha
  split at ha
  · exact h.2.2.2.2.2.1 x (List.mem_of_getElem? ha)
  · cases ha
/-- what a call does to a live number, and why it does not. -/
def onL (L : List Ent) (id : Int) (f : Kn → Int × Int × Kn) : Int × Int × List Ent := match atL L id with
  | none => (0, 18, L)
  | some x => if x.1 ≠ 0 then (0, x.1, L) else if (f x.2).2.1 ≠ 0 then (0, (f x.2).2.1, L) else ((f x.2).1, 0, L.set (id - 1).toNat (0, (f x.2).2.2))
theorem onL_why {L : List Ent} {id : Int} {f : Kn → Int × Int × Kn} (h : whyF L id ≠ 0) : onL L id f = (0, whyF L id, L) := by
  unfold onL
  unfold whyF at h ⊢
  cases ha : atL L id with
  | none => rfl
  | some x => rw [ha] at h; dsimp only at h ⊢; rw [if_pos h]
theorem why_live {L : List Ent} {id : Int} (h : whyF L id = 0) : ∃ k, atL L id = some (0, k) := by
  unfold whyF at h
  cases ha : atL L id with
  | none => rw [ha] at h; cases h
  | some x => rw [ha] at h; obtain ⟨d, k⟩ := x; dsimp only at h; subst h; exact ⟨k, rfl⟩
theorem onL_no {L : List Ent} {id : Int} {f : Kn → Int × Int × Kn} {k : Kn} (ha : atL L id = some (0, k)) (h : (f k).2.1 ≠ 0) : onL L id f = (0, (f k).2.1, L) := by
  unfold onL; rw [ha]; dsimp only; rw [if_neg (by simp), if_pos h]
theorem onL_ok {L : List Ent} {id : Int} {f : Kn → Int × Int × Kn} {k : Kn} (ha : atL L id = some (0, k)) (h : (f k).2.1 = 0) : onL L id f = ((f k).1, 0, L.set (id - 1).toNat (0, (f k).2.2)) := by
  unfold onL; rw [ha]; dsimp only; rw [if_neg (by simp), if_neg (by simpa using h)]
theorem feed_ok {c : Cfg} (hc : CfgOk c) {B : Int} {k : Kn} (hk : KnOk c B k) {n : Int} (h : (feedF k n).2.1 = 0) : KnOk c (B + 1048576) (feedF k n).2.2 := by
  unfold feedF at h ⊢
  by_cases h0 : n < 0
  · rw [if_pos h0] at h; cases h
  rw [if_neg h0] at h ⊢
  by_cases he : k.ended = true
  · rw [if_pos he] at h; cases h
  rw [if_neg he]
  obtain ⟨h1, h2, h3, h4, h5, h6, h7, h8, h9, h10⟩ := hk
  obtain ⟨ca, en, cz, q, l, f, fr, p, g⟩ := k
  dsimp only [fedK] at *
  have hr := hc.2.2.2.2.2.2.2.1
  unfold KnOk
  dsimp only
  obtain ⟨t, ht⟩ : ∃ t, min n f = t := ⟨_, rfl⟩
  rw [ht]
  have ht2 : 0 ≤ t ∧ t ≤ f := by omega
  refine ⟨h1, by omega, by omega, ?_, by omega, by omega, by omega, h8, h9, h10⟩
  have : f ≤ c.room := by omega
  omega
set_option maxRecDepth 100000 in
theorem mod_Feed (w : World) (bm bt tb lb : Nat) (c : Cfg) (B : Int) (L : List Ent) (h : MAt w bm bt tb lb c B L) (hB : B + 1048576 ≤ 2 ^ 45) (id n : Int) (hw : (Lit.int .i64 id).wf = true) :
    Calls Try.prog 20 #[.pointer (some ⟨bm, 0, none⟩), .int .i64 id, .int .i64 n] w fun e w' => e = .returned (.tuple #[.int .i64 (onL L id (fun k => feedF k n)).1, .int .i64 (onL L id (fun k => feedF k n)).2.1]) ∧ MAt w' bm bt tb lb c (B + 1048576) (onL L id (fun k => feedF k n)).2.2 ∧ Only [lb] w w' := by
  have hb0 : Below w.heap.size w ((w.alloc (.cells #[.pointer (some ⟨bm, 0, none⟩)] 22)).alloc (.cells #[.int .i64 n] 3)) := ((Below.refl _ _).alloc (Nat.le_refl _) _).alloc (by simp) _
  have hp := (Blk.new w 22 #[.pointer (some ⟨bm, 0, none⟩)]).alloc (.cells #[.int .i64 n] 3)
  have hn := (Blk.new (w.alloc (.cells #[.pointer (some ⟨bm, 0, none⟩)] 22)) 3 #[.int .i64 n]).at_eq (World.size_alloc w _)
  have hm := h.later hb0
  have HB0 := Lib.hid hb0
  have HM := Lib.hid hm
  have HE := Lib.hid (h.mono (by omega : B ≤ B + 1048576) hB)
  by_cases hy : whyF L id = 0
  · obtain ⟨k, ha⟩ := why_live hy
    have hk := h.kn ha
    have hC : ∀ W, Below ((w.alloc (.cells #[.pointer (some ⟨bm, 0, none⟩)] 22)).alloc (.cells #[.int .i64 n] 3)).heap.size ((w.alloc (.cells #[.pointer (some ⟨bm, 0, none⟩)] 22)).alloc (.cells #[.int .i64 n] 3)) W → Calls Try.prog 37 #[k.val, .pointer (some ⟨w.heap.size + 1, 0, none⟩), .pointer (some ⟨w.heap.size, 0, none⟩)] W
        fun e w' => e = .returned (.tuple #[(feedF k n).2.2.val, .int .i64 (feedF k n).1, .int .i64 (feedF k n).2.1]) ∧ Below W.heap.size W w' := fun W hW =>
      mod_Feed1 W bm bt tb lb _ _ c B L (hm.later hW) k hk n (hn.below hW hn.lt) (hp.below hW hp.lt)
    obtain ⟨o, e, k2⟩ : Int × Int × Kn := feedF k n
    by_cases he : (feedF k n).2.1 = 0
    · rw [onL_ok ha he]
      have CA := Lib.hid (ask_Feed_ok _ bm bt tb lb (w.heap.size + 1) w.heap.size c B L hm id hw k (feedF k n).2.2 ha (feedF k n).1 (B + 1048576) (by omega) hB (feed_ok h.2.2.2.2.1 hk he) (by rw [he] at hC; exact hC))
      clear h hm hp hn hC hk ha hy hb0
      go_enter Try.func20, Try.ntmps20
      go_wp2_with (go_at_call 24; refine CA.out.mono ?_; rintro e w1 ⟨rfl, hm1, ho1⟩; have HM1 := Lib.hid hm1; have HO1 := Lib.hid ho1; clear hm1 ho1)
      go_returns
      exact ⟨rfl, HM1.out, (Only.of_below HB0.out).trans HO1.out⟩
    · rw [onL_no ha he]
      have CA := Lib.hid (ask_Feed_no _ bm bt tb lb (w.heap.size + 1) w.heap.size c B L hm id hw k (feedF k n).2.2 ha (feedF k n).1 (feedF k n).2.1 he hC)
      clear h hm hp hn hC hk ha hy hb0
      go_enter Try.func20, Try.ntmps20
      go_wp2_with (go_at_call 24; refine CA.out.mono ?_; rintro e w1 ⟨rfl, hb1⟩; have HB1 := Lib.hid (HB0.out.trans (hb1.mono HB0.out.size)); clear hb1)
      go_returns
      exact ⟨rfl, HE.out.later HB1.out, Only.of_below HB1.out⟩
  · rw [onL_why hy]
    have CA := Lib.hid (fun fv => ask_why _ bm bt tb lb c B L hm id hw fv hy)
    clear h hm hp hn hy hb0
    go_enter Try.func20, Try.ntmps20
    go_wp2_with (go_at_call 24; refine (CA.out _).mono ?_; rintro e w1 ⟨rfl, hb1⟩; have HB1 := Lib.hid (HB0.out.trans (hb1.mono HB0.out.size)); clear hb1)
    go_returns
    exact ⟨rfl, HE.out.later HB1.out, Only.of_below HB1.out⟩
def endF2 (k : Kn) : Int × Int × Kn := (0, (endK k).1, (endK k).2)
theorem end_ok {c : Cfg} {B : Int} {k : Kn} (hk : KnOk c B k) : KnOk c B (endF2 k).2.2 := by
  unfold endF2 endK
  split
  · exact hk
  · exact hk
set_option maxRecDepth 100000 in
theorem mod_End (w : World) (bm bt tb lb : Nat) (c : Cfg) (B : Int) (L : List Ent) (h : MAt w bm bt tb lb c B L) (id : Int) (hw : (Lit.int .i64 id).wf = true) :
    Calls Try.prog 10 #[.pointer (some ⟨bm, 0, none⟩), .int .i64 id] w fun e w' => e = .returned (.int .i64 (onL L id endF2).2.1) ∧ MAt w' bm bt tb lb c B (onL L id endF2).2.2 ∧ Only [lb] w w' := by
  have HE := Lib.hid h
  by_cases hy : whyF L id = 0
  · obtain ⟨k, ha⟩ := why_live hy
    have hk := h.kn ha
    by_cases he : (endF2 k).2.1 = 0
    · rw [onL_ok ha he]
      have CA := Lib.hid (ask_End_ok w bm bt tb lb c B L h id hw k (endF2 k).2.2 ha 0 B (by omega) h.2.2.2.2.2.2.2 (end_ok hk) (fun W _ => by have h1 := mod_End1 W k; have h2 : (endK k).1 = 0 := he; rw [h2] at h1; exact h1))
      clear h hk ha hy
      go_enter Try.func10, Try.ntmps10
      go_wp2_with (go_at_call 24; refine CA.out.mono ?_; rintro e w1 ⟨rfl, hm1, ho1⟩; have HM1 := Lib.hid hm1; have HO1 := Lib.hid ho1; clear hm1 ho1)
      go_ret
      exact ⟨rfl, HM1.out, HO1.out⟩
    · rw [onL_no ha he]
      have CA := Lib.hid (ask_End_no w bm bt tb lb c B L h id hw k (endF2 k).2.2 ha 0 (endF2 k).2.1 he (fun W _ => mod_End1 W k))
      clear h hk ha hy
      go_enter Try.func10, Try.ntmps10
      go_wp2_with (go_at_call 24; refine CA.out.mono ?_; rintro e w1 ⟨rfl, hb1⟩; have HB1 := Lib.hid hb1; clear hb1)
      go_ret
      exact ⟨rfl, HE.out.later HB1.out, Only.of_below HB1.out⟩
  · rw [onL_why hy]
    have CA := Lib.hid (fun fv => ask_why _ bm bt tb lb c B L h id hw fv hy)
    clear h hy
    go_enter Try.func10, Try.ntmps10
    go_wp2_with (go_at_call 24; refine (CA.out _).mono ?_; rintro e w1 ⟨rfl, hb1⟩; have HB1 := Lib.hid hb1; clear hb1)
    go_ret
    exact ⟨rfl, HE.out.later HB1.out, Only.of_below HB1.out⟩
end Go.Proofs.Ytklelheejopfmaa
