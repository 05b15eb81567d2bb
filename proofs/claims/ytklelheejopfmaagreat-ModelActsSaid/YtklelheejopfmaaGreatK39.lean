/- One29 -/
import Derived.Test.YtklelheejopfmaaGreatK27
import Derived.Test.YtklelheejopfmaaGreatK22
import Derived.Test.YtklelheejopfmaaGreatK19
namespace Go.Proofs.YtklelheejopfmaaGreat
open Go Go.RowKit Go.Maps
attribute [local go_sem] Oper.semAt_some
set_option maxRecDepth 100000 in
theorem law_feeds (w : World) (bm bt tb lb : Nat) (c : Cfg) (B : Int) (L : List Ent) (h : MAt w bm bt tb lb c B L) (hB : B + 1048576 ≤ 2 ^ 45) (id n : Int) (hw : (Lit.int .i64 id).wf = true) (want err : Int) (L2 : List Ent) (hc : onL L id (fun k => feedF k n) = (want, err, L2)) :
    Calls Tryz.prog 23 #[.pointer (some ⟨bm, 0, none⟩), .int .i64 id, .int .i64 n, .int .i64 want, .int .i64 err] w fun e w' => e = .returned (.bool true) ∧ MAt w' bm bt tb lb c (B + 1048576) L2 ∧ Only [lb] w w' := by
  have CF := Lib.hid (by have h1 := mod_Feed w bm bt tb lb c B L h hB id n hw; rw [hc] at h1; exact h1)
  clear h hw hc
  go_enter Tryz.func23, Tryz.ntmps23
  go_wp2_with (go_at_call 27; refine CF.out.mono ?_; rintro e w1 ⟨rfl, hm1, ho1⟩; have HM1 := Lib.hid hm1; have HO1 := Lib.hid ho1; clear hm1 ho1)
  go_ret
  exact ⟨rfl, HM1.out, HO1.out⟩
set_option maxRecDepth 100000 in
theorem law_seen (w : World) : Calls Tryz.prog 22 #[] w fun e w' => e = .returned (Kn.seen ⟨0, false, 0, 1, 8184, 1, 2, 1, 8⟩) ∧ Below w.heap.size w w' := by
  go_enter Tryz.func22, Tryz.ntmps22
  go_wp2_with fail
  refine bodyPost_ret (by simp [results, Tryz.results22, go_sem]; try rfl) rfl ?_
  exact ⟨rfl, (Below.refl _ _).alloc (Nat.le_refl _) _⟩
def c29 : Cfg := ⟨2, 5, 2, 1024, 2⟩
theorem c29_ok : CfgOk c29 := by unfold CfgOk c29; decide
theorem one_wf : (Lit.int .i64 1).wf = true := by decide
def OneW (w : World) (bm bt tb lb : Nat) (B : Int) (L : List Ent) (w' : World) : Prop := MAt w' bm bt tb lb c29 B L ∧ Below w.heap.size w w' ∧ w.heap.size ≤ bt ∧ w.heap.size ≤ tb ∧ w.heap.size ≤ lb
theorem OneW.step {w w1 w2 : World} {bm bt tb lb : Nat} {B B2 : Int} {L L2 : List Ent} (h : OneW w bm bt tb lb B L w1) (hm : MAt w2 bm bt tb lb c29 B2 L2) (ho : Only [bt, tb, lb] w1 w2) : OneW w bm bt tb lb B2 L2 w2 :=
  ⟨hm, h.2.1.trans (ho.below h.2.1.size (by intro k hk; simp at hk; have := h.2.2; rcases hk with rfl | rfl | rfl <;> omega)), h.2.2⟩
theorem OneW.later {w w1 w2 : World} {bm bt tb lb : Nat} {B : Int} {L : List Ent} (h : OneW w bm bt tb lb B L w1) (hb : Below w1.heap.size w1 w2) : OneW w bm bt tb lb B L w2 :=
  ⟨h.1.later hb, h.2.1.trans (hb.mono h.2.1.size), h.2.2⟩
def OnePost (w : World) (e : Ending) (w' : World) : Prop := ∃ bm bt tb lb, e = .returned (.pointer (some ⟨bm, 0, none⟩)) ∧ OneW w bm bt tb lb 3145728 [(0, ⟨1024, false, 0, 0, 8192, 0, 0, 0, 0⟩)] w'
set_option maxRecDepth 100000 in
set_option maxHeartbeats 2000000 in
theorem law_one (w : World) : Calls Tryz.prog 20 #[] w (OnePost w) := by
  have CN := Lib.hid (mod_New_ok w c29 c29_ok)
  have CO := Lib.hid (fun W bm bt tb lb (h : OneW w bm bt tb lb 0 [] W) => by have h1 := mod_Open W bm bt tb lb c29 0 (by decide) [] h.1; rw [show openF c29 [] = (1, 0, [(0, newKn 1024)]) from rfl] at h1; exact h1)
  have F1 := Lib.hid (fun W bm bt tb lb (h : OneW w bm bt tb lb 0 [(0, newKn 1024)] W) => law_feeds W bm bt tb lb c29 0 _ h.1 (by decide) 1 1000 one_wf 1000 0 [(0, ⟨1000, false, 0, 0, 8000, 24, 0, 0, 0⟩)] rfl)
  have F2 := Lib.hid (fun W bm bt tb lb (h : OneW w bm bt tb lb 1048576 [(0, ⟨1000, false, 0, 0, 8000, 24, 0, 0, 0⟩)] W) => law_feeds W bm bt tb lb c29 1048576 _ h.1 (by decide) 1 1000 one_wf 24 0 [(0, ⟨1024, false, 0, 0, 8192, 0, 0, 0, 0⟩)] rfl)
  have F3 := Lib.hid (fun W bm bt tb lb (h : OneW w bm bt tb lb 2097152 [(0, ⟨1024, false, 0, 0, 8192, 0, 0, 0, 0⟩)] W) => law_feeds W bm bt tb lb c29 2097152 _ h.1 (by decide) 1 (-1) one_wf 0 3 [(0, ⟨1024, false, 0, 0, 8192, 0, 0, 0, 0⟩)] rfl)
  have D1 := Lib.hid (fun W bm bt tb lb (h : OneW w bm bt tb lb 3145728 [(0, ⟨1024, false, 0, 0, 8192, 0, 0, 0, 0⟩)] W) => by have h1 := mod_Drain W bm bt tb lb c29 3145728 [(0, ⟨1024, false, 0, 0, 8192, 0, 0, 0, 0⟩)] h.1 (by intro x hx; simp at hx; subst hx; decide) 1 one_wf; rw [show drainL [(0, ⟨1024, false, 0, 0, 8192, 0, 0, 0, 0⟩)] 1 = (16, [(0, ⟨1024, false, 0, 0, 8192, 0, 0, 0, 0⟩)]) from rfl] at h1; exact h1)
  go_enter Tryz.func20, Tryz.ntmps20
  go_wp2_with (first
    | (go_at_call 4; refine CN.out.mono ?_; rintro e w1 ⟨bm, bt, tb, lb, rfl, hm1, hb1, h1, h2, h3⟩; have HW1 := Lib.hid (show OneW w bm bt tb lb 0 [] w1 from ⟨hm1, hb1, h1, h2, h3⟩); clear hm1 hb1 h1 h2 h3 CN)
    | (go_at_call 25; refine (CO.out _ _ _ _ _ HW1.out).mono ?_; rintro e w2 ⟨rfl, hm2, ho2⟩; have HW2 := Lib.hid (HW1.out.step hm2 ho2); clear hm2 ho2 CO HW1)
    | (go_at_call 23; refine (F1.out _ _ _ _ _ HW2.out).mono ?_; rintro e w3 ⟨rfl, hm3, ho3⟩; have HW3 := Lib.hid (HW2.out.step hm3 (ho3.mono (by simp))); clear hm3 ho3 F1 HW2)
    | (go_at_call 23; refine (F2.out _ _ _ _ _ HW3.out).mono ?_; rintro e w4 ⟨rfl, hm4, ho4⟩; have HW4 := Lib.hid (HW3.out.step hm4 (ho4.mono (by simp))); clear hm4 ho4 F2 HW3)
    | (go_at_call 23; refine (F3.out _ _ _ _ _ HW4.out).mono ?_; rintro e w5 ⟨rfl, hm5, ho5⟩; have HW5 := Lib.hid (HW4.out.step hm5 (ho5.mono (by simp))); clear hm5 ho5 F3 HW4)
    | (go_at_call 24; refine (D1.out _ _ _ _ _ HW5.out).mono ?_; rintro e w6 ⟨rfl, hm6, ho6⟩; have HW6 := Lib.hid (HW5.out.step hm6 (ho6.mono (by simp))); clear hm6 ho6 D1 HW5))
  go_ret
  exact ⟨bm, bt, tb, lb, rfl, HW6.out⟩
theorem see_c (w : World) (bm bt tb lb : Nat) (B : Int) (L : List Ent) (h : MAt w bm bt tb lb c29 B L) (s : Kn) (r : Int) (L2 : List Ent) (hc : (onL L 1 (seeF c29 s)).2 = (r, L2)) :
    Calls Tryz.prog 21 #[.pointer (some ⟨bm, 0, none⟩), .int .i64 1, s.seen] w fun e w' => e = .returned (.int .i64 r) ∧ MAt w' bm bt tb lb c29 B L2 ∧ Only [lb] w w' := by
  have h1 := mod_See w bm bt tb lb c29 B L h 1 one_wf s
  rw [hc] at h1
  exact h1
theorem see_yes {c : Cfg} {k s : Kn} (h : SeeOk c k.came k.cause k.pics k.gone s.cause s.queued s.left s.free s.frames s.pics s.gone) : (onL [(0, k)] 1 (seeF c s)).2 = (0, [(0, { s with came := k.came, ended := k.ended })]) := by
  rw [onL_ok (show atL [(0, k)] 1 = some (0, k) from rfl) (show (seeF c s k).2.1 = 0 from if_pos h)]
  rfl
theorem see_not {c : Cfg} {k s : Kn} (h : ¬ SeeOk c k.came k.cause k.pics k.gone s.cause s.queued s.left s.free s.frames s.pics s.gone) : (onL [(0, k)] 1 (seeF c s)).2 = (2, [(0, k)]) := by
  have h2 : (seeF c s k).2.1 = 2 := if_neg h
  rw [onL_no (show atL [(0, k)] 1 = some (0, k) from rfl) (by rw [h2]; decide), h2]
theorem drain_c (w : World) (bm bt tb lb : Nat) (B : Int) (L : List Ent) (h : MAt w bm bt tb lb c29 B L) (hq : ∀ x ∈ L, x.2.queued ≤ 9223372036854775807) (r : Int) (L2 : List Ent) (hc : drainL L 1 = (r, L2)) :
    Calls Tryz.prog 24 #[.pointer (some ⟨bm, 0, none⟩), .int .i64 1] w fun e w' => e = .returned (.int .i64 r) ∧ MAt w' bm bt tb lb c29 B L2 ∧ Only [bt, tb, lb] w w' := by
  have h1 := mod_Drain w bm bt tb lb c29 B L h hq 1 one_wf
  rw [hc] at h1
  refine h1.mono ?_
  rintro e w' ⟨h1, h2, h3⟩
  exact ⟨h1, h2, h3.mono (by simp)⟩
theorem free_c (w : World) (bm bt tb lb : Nat) (B : Int) (L : List Ent) (h : MAt w bm bt tb lb c29 B L) (r : Int) (hc : c29.frames - allF L = r) :
    Calls Tryz.prog 13 #[.pointer (some ⟨bm, 0, none⟩)] w fun e w' => e = .returned (.int .i64 r) ∧ Below w.heap.size w w' := by
  have h1 := mod_Free w bm bt tb lb c29 B L h
  rw [hc] at h1
  exact h1
theorem q1 {k : Kn} {c : Int} (h : k.queued ≤ 9223372036854775807) : ∀ x ∈ ([(c, k)] : List Ent), x.2.queued ≤ 9223372036854775807 := by
  intro x hx; simp at hx; subst hx; exact h
set_option maxRecDepth 100000 in
set_option maxHeartbeats 2000000 in
theorem law_awake (w : World) : Calls Tryz.prog 6 #[] w fun e w' => e = .returned (.bool true) ∧ Below w.heap.size w w' := by
  have C1 := Lib.hid (law_one w)
  have CS := Lib.hid (fun W => law_seen W)
  have S1 := Lib.hid (fun W bm bt tb lb (h : OneW w bm bt tb lb 3145728 [(0, ⟨1024, false, 0, 0, 8192, 0, 0, 0, 0⟩)] W) => see_c W bm bt tb lb _ _ h.1 ⟨0, false, 0, 1, 8184, 1, 2, 1, 8⟩ 0 [(0, ⟨1024, false, 0, 1, 8184, 1, 2, 1, 8⟩)] (see_yes (by unfold SeeOk c29; exact of_decide_eq_true (by kernel_rfl))))
  have F1 := Lib.hid (fun W bm bt tb lb (h : OneW w bm bt tb lb 3145728 [(0, ⟨1024, false, 0, 1, 8184, 1, 2, 1, 8⟩)] W) => law_feeds W bm bt tb lb c29 3145728 _ h.1 (by decide) 1 9 one_wf 1 0 [(0, ⟨1025, false, 0, 1, 8192, 0, 2, 1, 8⟩)] rfl)
  have D1 := Lib.hid (fun W bm bt tb lb (h : OneW w bm bt tb lb 4194304 [(0, ⟨1025, false, 0, 1, 8192, 0, 2, 1, 8⟩)] W) => drain_c W bm bt tb lb _ _ h.1 (q1 (by decide)) 0 [(0, ⟨1025, false, 0, 0, 8192, 0, 2, 1, 8⟩)] rfl)
  have D2 := Lib.hid (fun W bm bt tb lb (h : OneW w bm bt tb lb 4194304 [(0, ⟨1025, false, 0, 0, 8192, 0, 2, 1, 8⟩)] W) => drain_c W bm bt tb lb _ _ h.1 (q1 (by decide)) 16 [(0, ⟨1025, false, 0, 0, 8192, 0, 2, 1, 8⟩)] rfl)
  have E1 := Lib.hid (fun W bm bt tb lb (h : OneW w bm bt tb lb 4194304 [(0, ⟨1025, false, 0, 0, 8192, 0, 2, 1, 8⟩)] W) => free_c W bm bt tb lb _ _ h.1 3 rfl)
  go_enter Tryz.func6, Tryz.ntmps6
  go_wp2_with (first
    | (go_at_call 20; refine C1.out.mono ?_; rintro e w1 ⟨bm, bt, tb, lb, rfl, hw1⟩; have HW1 := Lib.hid hw1; clear hw1 C1)
    | (go_at_call 22; refine (CS.out _).mono ?_; rintro e w2 ⟨rfl, hb2⟩; have HW2 := Lib.hid (HW1.out.later hb2); clear hb2 CS HW1)
    | (go_at_call 21; refine (S1.out _ _ _ _ _ HW2.out).mono ?_; rintro e w3 ⟨rfl, hm3, ho3⟩; have HW3 := Lib.hid (HW2.out.step hm3 (ho3.mono (by simp))); clear hm3 ho3 S1 HW2)
    | (go_at_call 23; refine (F1.out _ _ _ _ _ HW3.out).mono ?_; rintro e w4 ⟨rfl, hm4, ho4⟩; have HW4 := Lib.hid (HW3.out.step hm4 (ho4.mono (by simp))); clear hm4 ho4 F1 HW3)
    | (go_at_call 24; refine (D1.out _ _ _ _ _ HW4.out).mono ?_; rintro e w5 ⟨rfl, hm5, ho5⟩; have HW5 := Lib.hid (HW4.out.step hm5 ho5); clear hm5 ho5 D1 HW4)
    | (go_at_call 24; refine (D2.out _ _ _ _ _ HW5.out).mono ?_; rintro e w6 ⟨rfl, hm6, ho6⟩; have HW6 := Lib.hid (HW5.out.step hm6 ho6); clear hm6 ho6 D2 HW5)
    | (go_at_call 13; refine (E1.out _ _ _ _ _ HW6.out).mono ?_; rintro e w7 ⟨rfl, hb7⟩; have HB7 := Lib.hid (HW6.out.2.1.trans (hb7.mono HW6.out.2.1.size)); clear hb7 E1 HW6))
  go_ret
  exact ⟨rfl, HB7.out⟩
end Go.Proofs.YtklelheejopfmaaGreat
