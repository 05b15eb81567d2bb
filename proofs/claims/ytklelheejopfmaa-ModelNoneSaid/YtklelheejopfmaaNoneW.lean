/- layer 29: ModelNone's walk (printed by gen_none.py). -/
import Derived.Test.YtklelheejopfmaaNone29
namespace Go.Proofs.Ytklelheejopfmaa
open Go Go.RowKit Go.Maps
attribute [local go_sem] Oper.semAt_some
abbrev actC (k id n a b c d e' f g : Int) : Array Value := #[.int .i64 k, .int .i64 id, .int .i64 n, .int .i64 a, .int .i64 b, .int .i64 c, .int .i64 d, .int .i64 e', .int .i64 f, .int .i64 g]
def NoneW (w : World) (k id n a b c d e' f g : Int) (W : World) : Prop :=
  Blk W w.heap.size 45 #[.int .i64 k, .int .i64 id, .int .i64 n, .int .i64 a, .int .i64 b, .int .i64 c, .int .i64 d, .int .i64 e', .int .i64 f, .int .i64 g] ∧ Blk W (w.heap.size + 1) 49 #[.int .i64 0, .int .i64 0, .int .i64 0, .int .i64 0, .int .i64 0, .pointer none, .map none] ∧
    Blk W (w.heap.size + 2) 22 #[.pointer none, .pointer (some ⟨w.heap.size + 1, 0, none⟩)] ∧ Below w.heap.size w W
theorem NoneW.later {w W W' : World} {k id n a b c d e' f g : Int} (h : NoneW w k id n a b c d e' f g W) (hb : Below W.heap.size W W') : NoneW w k id n a b c d e' f g W' :=
  ⟨h.1.below hb h.1.lt, h.2.1.below hb h.2.1.lt, h.2.2.1.below hb h.2.2.1.lt, h.2.2.2.trans (hb.mono h.2.2.2.size)⟩
def numN : Value → Int | .int _ a => a | _ => 0
set_option maxRecDepth 100000 in
set_option maxHeartbeats 8000000 in
theorem law_ModelNone (w : World) (k id n a b c d e' f g : Int) :
    Calls Try.prog 5 #[.agg #[.int .i64 k, .int .i64 id, .int .i64 n, .int .i64 a, .int .i64 b, .int .i64 c, .int .i64 d, .int .i64 e', .int .i64 f, .int .i64 g]] w fun e w' => e = .returned (.bool true) ∧ Below w.heap.size w w' := by
  have HN0 := Lib.hid (show NoneW w k id n a b c d e' f g (((w.alloc (.cells #[.int .i64 k, .int .i64 id, .int .i64 n, .int .i64 a, .int .i64 b, .int .i64 c, .int .i64 d, .int .i64 e', .int .i64 f, .int .i64 g] 45)).alloc (.cells #[.int .i64 0, .int .i64 0, .int .i64 0, .int .i64 0, .int .i64 0, .pointer none, .map none] 49)).alloc (.cells #[.pointer none, .pointer (some ⟨w.heap.size + 1, 0, none⟩)] 22)) from
    ⟨((Blk.new _ _ _).alloc _).alloc _, ((Blk.new _ _ _).at_eq (World.size_alloc _ _)).alloc _, (Blk.new _ _ _).at_eq (by simp), (((Below.refl _ _).alloc (Nat.le_refl _) _).alloc (by simp) _).alloc (by simp; omega) _⟩)
  have CA := Lib.hid (fun W => law_awake W)
  go_enter Try.func5, Try.ntmps5
  go_wp2_with fail
  simp only [Nat.add_assoc, Nat.reduceAdd]
  generalize (((w.alloc (.cells #[.int .i64 k, .int .i64 id, .int .i64 n, .int .i64 a, .int .i64 b, .int .i64 c, .int .i64 d, .int .i64 e', .int .i64 f, .int .i64 g] 45)).alloc (.cells #[.int .i64 0, .int .i64 0, .int .i64 0, .int .i64 0, .int .i64 0, .pointer none, .map none] 49)).alloc (.cells #[.pointer none, .pointer (some ⟨w.heap.size + 1, 0, none⟩)] 22)) = W0 at HN0 ⊢
  go_loopw [4] (fun v4 wr => ∃ i : Nat, v4 = .int .i64 (i : Int) ∧ i ≤ 2 ∧ Hid (NoneW w k id n a b c d e' f g wr)) (fun v4 _ => 2 - (numN v4).toNat)
  case atStart => exact ⟨0, rfl, by decide, HN0⟩
  case round =>
    obtain ⟨i, rfl, hi, HN⟩ := hrel
    have hcase : i = 0 ∨ i = 1 ∨ i = 2 := by omega
    have x1 := HN.out.1.cell 1
    have x2 := HN.out.1.cell 2
    have x3 := HN.out.1.cell 3
    have x4 := HN.out.1.cell 4
    have x5 := HN.out.1.cell 5
    have x6 := HN.out.1.cell 6
    have x7 := HN.out.1.cell 7
    have x8 := HN.out.1.cell 8
    have x9 := HN.out.1.cell 9
    skip
    have p0 := HN.out.2.2.1.cell 0; have p1 := HN.out.2.2.1.cell 1
    rcases hcase with rfl | rfl | rfl
    · clear hi
      have hP : ∀ W, NoneW w k id n a b c d e' f g W → NoM W none := fun W _ => .inl rfl
      obtain ⟨p, hp⟩ : ∃ p : Option Addr, p = none := ⟨_, rfl⟩
      rw [← hp] at hP p0
      clear hp
      go_wp2_with (first
        | (go_at_call 18; refine (no_Open _ p (hP _ HN.out)).mono ?_; rintro e w' ⟨rfl, hb⟩; replace HN := Lib.hid (HN.out.later hb); have x1 := HN.out.1.cell 1; have x2 := HN.out.1.cell 2; have x3 := HN.out.1.cell 3; have x4 := HN.out.1.cell 4; have x5 := HN.out.1.cell 5; have x6 := HN.out.1.cell 6; have x7 := HN.out.1.cell 7; have x8 := HN.out.1.cell 8; have x9 := HN.out.1.cell 9; have p0 := HN.out.2.2.1.cell 0; have p1 := HN.out.2.2.1.cell 1; clear hb)
        | (go_at_call 20; refine (no_Feed _ p (hP _ HN.out) id n).mono ?_; rintro e w' ⟨rfl, hb⟩; replace HN := Lib.hid (HN.out.later hb); have x1 := HN.out.1.cell 1; have x2 := HN.out.1.cell 2; have x3 := HN.out.1.cell 3; have x4 := HN.out.1.cell 4; have x5 := HN.out.1.cell 5; have x6 := HN.out.1.cell 6; have x7 := HN.out.1.cell 7; have x8 := HN.out.1.cell 8; have x9 := HN.out.1.cell 9; have p0 := HN.out.2.2.1.cell 0; have p1 := HN.out.2.2.1.cell 1; clear hb)
        | (go_at_call 21; refine (no_Press _ p (hP _ HN.out) n).mono ?_; rintro e w' ⟨rfl, hb⟩; replace HN := Lib.hid (HN.out.later hb); have x1 := HN.out.1.cell 1; have x2 := HN.out.1.cell 2; have x3 := HN.out.1.cell 3; have x4 := HN.out.1.cell 4; have x5 := HN.out.1.cell 5; have x6 := HN.out.1.cell 6; have x7 := HN.out.1.cell 7; have x8 := HN.out.1.cell 8; have x9 := HN.out.1.cell 9; have p0 := HN.out.2.2.1.cell 0; have p1 := HN.out.2.2.1.cell 1; clear hb)
        | (go_at_call 22; refine (no_Status _ p (hP _ HN.out) id).mono ?_; rintro e w' ⟨rfl, hb⟩; replace HN := Lib.hid (HN.out.later (hb.alloc hb.size (.cells #[.int .i64 0, .int .i64 0, .int .i64 0, .int .i64 0, .int .i64 0, .int .i64 0, .int .i64 0] 27))); have x1 := HN.out.1.cell 1; have x2 := HN.out.1.cell 2; have x3 := HN.out.1.cell 3; have x4 := HN.out.1.cell 4; have x5 := HN.out.1.cell 5; have x6 := HN.out.1.cell 6; have x7 := HN.out.1.cell 7; have x8 := HN.out.1.cell 8; have x9 := HN.out.1.cell 9; have p0 := HN.out.2.2.1.cell 0; have p1 := HN.out.2.2.1.cell 1; clear hb)
        | (go_at_call 10; refine (no_End _ p (hP _ HN.out) id).mono ?_; rintro e w' ⟨rfl, hb⟩; replace HN := Lib.hid (HN.out.later hb); have x1 := HN.out.1.cell 1; have x2 := HN.out.1.cell 2; have x3 := HN.out.1.cell 3; have x4 := HN.out.1.cell 4; have x5 := HN.out.1.cell 5; have x6 := HN.out.1.cell 6; have x7 := HN.out.1.cell 7; have x8 := HN.out.1.cell 8; have x9 := HN.out.1.cell 9; have p0 := HN.out.2.2.1.cell 0; have p1 := HN.out.2.2.1.cell 1; clear hb)
        | (go_at_call 7; refine (no_See _ p (hP _ HN.out) id a b c d e' f g).mono ?_; rintro e w' ⟨rfl, hb⟩; replace HN := Lib.hid (HN.out.later hb); have x1 := HN.out.1.cell 1; have x2 := HN.out.1.cell 2; have x3 := HN.out.1.cell 3; have x4 := HN.out.1.cell 4; have x5 := HN.out.1.cell 5; have x6 := HN.out.1.cell 6; have x7 := HN.out.1.cell 7; have x8 := HN.out.1.cell 8; have x9 := HN.out.1.cell 9; have p0 := HN.out.2.2.1.cell 0; have p1 := HN.out.2.2.1.cell 1; clear hb)
        | (go_at_call 13; refine (no_Drain _ p (hP _ HN.out) id).mono ?_; rintro e w' ⟨rfl, hb⟩; replace HN := Lib.hid (HN.out.later hb); have x1 := HN.out.1.cell 1; have x2 := HN.out.1.cell 2; have x3 := HN.out.1.cell 3; have x4 := HN.out.1.cell 4; have x5 := HN.out.1.cell 5; have x6 := HN.out.1.cell 6; have x7 := HN.out.1.cell 7; have x8 := HN.out.1.cell 8; have x9 := HN.out.1.cell 9; have p0 := HN.out.2.2.1.cell 0; have p1 := HN.out.2.2.1.cell 1; clear hb)
        | (go_at_call 11; refine (no_Close _ p (hP _ HN.out) id).mono ?_; rintro e w' ⟨rfl, hb⟩; replace HN := Lib.hid (HN.out.later hb); have x1 := HN.out.1.cell 1; have x2 := HN.out.1.cell 2; have x3 := HN.out.1.cell 3; have x4 := HN.out.1.cell 4; have x5 := HN.out.1.cell 5; have x6 := HN.out.1.cell 6; have x7 := HN.out.1.cell 7; have x8 := HN.out.1.cell 8; have x9 := HN.out.1.cell 9; have p0 := HN.out.2.2.1.cell 0; have p1 := HN.out.2.2.1.cell 1; clear hb)
        | (go_at_call 23; refine (no_Evict _ p (hP _ HN.out) id).mono ?_; rintro e w' ⟨rfl, hb⟩; replace HN := Lib.hid (HN.out.later hb); have x1 := HN.out.1.cell 1; have x2 := HN.out.1.cell 2; have x3 := HN.out.1.cell 3; have x4 := HN.out.1.cell 4; have x5 := HN.out.1.cell 5; have x6 := HN.out.1.cell 6; have x7 := HN.out.1.cell 7; have x8 := HN.out.1.cell 8; have x9 := HN.out.1.cell 9; have p0 := HN.out.2.2.1.cell 0; have p1 := HN.out.2.2.1.cell 1; clear hb)
        | (go_at_call 15; refine (no_Live _ p (hP _ HN.out)).mono ?_; rintro e w' ⟨rfl, hb⟩; replace HN := Lib.hid (HN.out.later hb); have x1 := HN.out.1.cell 1; have x2 := HN.out.1.cell 2; have x3 := HN.out.1.cell 3; have x4 := HN.out.1.cell 4; have x5 := HN.out.1.cell 5; have x6 := HN.out.1.cell 6; have x7 := HN.out.1.cell 7; have x8 := HN.out.1.cell 8; have x9 := HN.out.1.cell 9; have p0 := HN.out.2.2.1.cell 0; have p1 := HN.out.2.2.1.cell 1; clear hb)
        | (go_at_call 14; refine (no_Free _ p (hP _ HN.out)).mono ?_; rintro e w' ⟨rfl, hb⟩; replace HN := Lib.hid (HN.out.later hb); have x1 := HN.out.1.cell 1; have x2 := HN.out.1.cell 2; have x3 := HN.out.1.cell 3; have x4 := HN.out.1.cell 4; have x5 := HN.out.1.cell 5; have x6 := HN.out.1.cell 6; have x7 := HN.out.1.cell 7; have x8 := HN.out.1.cell 8; have x9 := HN.out.1.cell 9; have p0 := HN.out.2.2.1.cell 0; have p1 := HN.out.2.2.1.cell 1; clear hb))
      exact ⟨⟨1, rfl, by decide, HN⟩, by decide⟩
    · clear hi
      have hP : ∀ W, NoneW w k id n a b c d e' f g W → NoM W (some ⟨w.heap.size + 1, 0, none⟩) := fun W h => .inr ⟨_, rfl, h.2.1.cell 5⟩
      obtain ⟨p, hp⟩ : ∃ p : Option Addr, p = some ⟨w.heap.size + 1, 0, none⟩ := ⟨_, rfl⟩
      rw [← hp] at hP p1
      clear hp
      go_wp2_with (first
        | (go_at_call 18; refine (no_Open _ p (hP _ HN.out)).mono ?_; rintro e w' ⟨rfl, hb⟩; replace HN := Lib.hid (HN.out.later hb); have x1 := HN.out.1.cell 1; have x2 := HN.out.1.cell 2; have x3 := HN.out.1.cell 3; have x4 := HN.out.1.cell 4; have x5 := HN.out.1.cell 5; have x6 := HN.out.1.cell 6; have x7 := HN.out.1.cell 7; have x8 := HN.out.1.cell 8; have x9 := HN.out.1.cell 9; have p0 := HN.out.2.2.1.cell 0; have p1 := HN.out.2.2.1.cell 1; clear hb)
        | (go_at_call 20; refine (no_Feed _ p (hP _ HN.out) id n).mono ?_; rintro e w' ⟨rfl, hb⟩; replace HN := Lib.hid (HN.out.later hb); have x1 := HN.out.1.cell 1; have x2 := HN.out.1.cell 2; have x3 := HN.out.1.cell 3; have x4 := HN.out.1.cell 4; have x5 := HN.out.1.cell 5; have x6 := HN.out.1.cell 6; have x7 := HN.out.1.cell 7; have x8 := HN.out.1.cell 8; have x9 := HN.out.1.cell 9; have p0 := HN.out.2.2.1.cell 0; have p1 := HN.out.2.2.1.cell 1; clear hb)
        | (go_at_call 21; refine (no_Press _ p (hP _ HN.out) n).mono ?_; rintro e w' ⟨rfl, hb⟩; replace HN := Lib.hid (HN.out.later hb); have x1 := HN.out.1.cell 1; have x2 := HN.out.1.cell 2; have x3 := HN.out.1.cell 3; have x4 := HN.out.1.cell 4; have x5 := HN.out.1.cell 5; have x6 := HN.out.1.cell 6; have x7 := HN.out.1.cell 7; have x8 := HN.out.1.cell 8; have x9 := HN.out.1.cell 9; have p0 := HN.out.2.2.1.cell 0; have p1 := HN.out.2.2.1.cell 1; clear hb)
        | (go_at_call 22; refine (no_Status _ p (hP _ HN.out) id).mono ?_; rintro e w' ⟨rfl, hb⟩; replace HN := Lib.hid (HN.out.later (hb.alloc hb.size (.cells #[.int .i64 0, .int .i64 0, .int .i64 0, .int .i64 0, .int .i64 0, .int .i64 0, .int .i64 0] 27))); have x1 := HN.out.1.cell 1; have x2 := HN.out.1.cell 2; have x3 := HN.out.1.cell 3; have x4 := HN.out.1.cell 4; have x5 := HN.out.1.cell 5; have x6 := HN.out.1.cell 6; have x7 := HN.out.1.cell 7; have x8 := HN.out.1.cell 8; have x9 := HN.out.1.cell 9; have p0 := HN.out.2.2.1.cell 0; have p1 := HN.out.2.2.1.cell 1; clear hb)
        | (go_at_call 10; refine (no_End _ p (hP _ HN.out) id).mono ?_; rintro e w' ⟨rfl, hb⟩; replace HN := Lib.hid (HN.out.later hb); have x1 := HN.out.1.cell 1; have x2 := HN.out.1.cell 2; have x3 := HN.out.1.cell 3; have x4 := HN.out.1.cell 4; have x5 := HN.out.1.cell 5; have x6 := HN.out.1.cell 6; have x7 := HN.out.1.cell 7; have x8 := HN.out.1.cell 8; have x9 := HN.out.1.cell 9; have p0 := HN.out.2.2.1.cell 0; have p1 := HN.out.2.2.1.cell 1; clear hb)
        | (go_at_call 7; refine (no_See _ p (hP _ HN.out) id a b c d e' f g).mono ?_; rintro e w' ⟨rfl, hb⟩; replace HN := Lib.hid (HN.out.later hb); have x1 := HN.out.1.cell 1; have x2 := HN.out.1.cell 2; have x3 := HN.out.1.cell 3; have x4 := HN.out.1.cell 4; have x5 := HN.out.1.cell 5; have x6 := HN.out.1.cell 6; have x7 := HN.out.1.cell 7; have x8 := HN.out.1.cell 8; have x9 := HN.out.1.cell 9; have p0 := HN.out.2.2.1.cell 0; have p1 := HN.out.2.2.1.cell 1; clear hb)
        | (go_at_call 13; refine (no_Drain _ p (hP _ HN.out) id).mono ?_; rintro e w' ⟨rfl, hb⟩; replace HN := Lib.hid (HN.out.later hb); have x1 := HN.out.1.cell 1; have x2 := HN.out.1.cell 2; have x3 := HN.out.1.cell 3; have x4 := HN.out.1.cell 4; have x5 := HN.out.1.cell 5; have x6 := HN.out.1.cell 6; have x7 := HN.out.1.cell 7; have x8 := HN.out.1.cell 8; have x9 := HN.out.1.cell 9; have p0 := HN.out.2.2.1.cell 0; have p1 := HN.out.2.2.1.cell 1; clear hb)
        | (go_at_call 11; refine (no_Close _ p (hP _ HN.out) id).mono ?_; rintro e w' ⟨rfl, hb⟩; replace HN := Lib.hid (HN.out.later hb); have x1 := HN.out.1.cell 1; have x2 := HN.out.1.cell 2; have x3 := HN.out.1.cell 3; have x4 := HN.out.1.cell 4; have x5 := HN.out.1.cell 5; have x6 := HN.out.1.cell 6; have x7 := HN.out.1.cell 7; have x8 := HN.out.1.cell 8; have x9 := HN.out.1.cell 9; have p0 := HN.out.2.2.1.cell 0; have p1 := HN.out.2.2.1.cell 1; clear hb)
        | (go_at_call 23; refine (no_Evict _ p (hP _ HN.out) id).mono ?_; rintro e w' ⟨rfl, hb⟩; replace HN := Lib.hid (HN.out.later hb); have x1 := HN.out.1.cell 1; have x2 := HN.out.1.cell 2; have x3 := HN.out.1.cell 3; have x4 := HN.out.1.cell 4; have x5 := HN.out.1.cell 5; have x6 := HN.out.1.cell 6; have x7 := HN.out.1.cell 7; have x8 := HN.out.1.cell 8; have x9 := HN.out.1.cell 9; have p0 := HN.out.2.2.1.cell 0; have p1 := HN.out.2.2.1.cell 1; clear hb)
        | (go_at_call 15; refine (no_Live _ p (hP _ HN.out)).mono ?_; rintro e w' ⟨rfl, hb⟩; replace HN := Lib.hid (HN.out.later hb); have x1 := HN.out.1.cell 1; have x2 := HN.out.1.cell 2; have x3 := HN.out.1.cell 3; have x4 := HN.out.1.cell 4; have x5 := HN.out.1.cell 5; have x6 := HN.out.1.cell 6; have x7 := HN.out.1.cell 7; have x8 := HN.out.1.cell 8; have x9 := HN.out.1.cell 9; have p0 := HN.out.2.2.1.cell 0; have p1 := HN.out.2.2.1.cell 1; clear hb)
        | (go_at_call 14; refine (no_Free _ p (hP _ HN.out)).mono ?_; rintro e w' ⟨rfl, hb⟩; replace HN := Lib.hid (HN.out.later hb); have x1 := HN.out.1.cell 1; have x2 := HN.out.1.cell 2; have x3 := HN.out.1.cell 3; have x4 := HN.out.1.cell 4; have x5 := HN.out.1.cell 5; have x6 := HN.out.1.cell 6; have x7 := HN.out.1.cell 7; have x8 := HN.out.1.cell 8; have x9 := HN.out.1.cell 9; have p0 := HN.out.2.2.1.cell 0; have p1 := HN.out.2.2.1.cell 1; clear hb))
      exact ⟨⟨2, rfl, by decide, HN⟩, by decide⟩
    · clear hi
      go_wp2_with (go_at_call 12; refine (CA.out _).mono ?_; rintro e w1 ⟨rfl, hb1⟩; have HB1 := Lib.hid (HN.out.2.2.2.trans (hb1.mono HN.out.2.2.2.size)); clear hb1)
      go_ret
      exact ⟨rfl, HB1.out⟩
end Go.Proofs.Ytklelheejopfmaa
