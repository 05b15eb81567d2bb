/- The verifier's kit for operations; the law's small functions. -/
import Derived.Test.YthcbidbhkikhmaaDoorPlain31
namespace Go.Proofs.YthcbidbhkikhmaaDoor
open Go Go.RowKit
set_option maxRecDepth 100000 in
theorem same_bytes (A B : Option Addr) (n m c d : Nat) (l k : List UInt8) (w : World) (hA : Sl w A (l.map byteV)) (hB : Sl w B (k.map byteV)) (hn : l.length = n) (hm : k.length = m) :
    Calls Tryd.prog 41 #[.slice A n c, .slice B m d] w fun e w' => e = .returned (.bool (l == k)) ∧ w = w' := by
  have h1 : ∀ (A : Option Addr) (l : List UInt8) (n c : Nat), Sl w A (l.map byteV) → l.length = n → (convert 22 9 (.slice A n c)).run Tryd.prog w = .ok (.string (bs l)) w := fun A l n c h hn => run_bytes_str (P := Tryd.prog) 22 9 5 (by kernel_rfl) (by kernel_rfl) (by kernel_rfl) h n c hn
  have g1 := h1 A l n c hA hn
  have g2 := h1 B k m d hB hm
  clear h1 hA hB hn hm
  go_enter Tryd.func41, Tryd.ntmps41
  go_wp2_with fail
  go_ret
  exact ⟨rfl, rfl⟩
def sameR (s1 : List UInt8) (i1 n1 : Int) (l1 s2 : List UInt8) (i2 n2 : Int) (l2 : List UInt8) : Bool := s1 == s2 && i1 == i2 && n1 == n2 && l1 == l2
set_option maxRecDepth 100000 in
set_option maxHeartbeats 2000000 in
theorem same_op (s1 : List UInt8) (i1 n1 : Int) (A1 : Option Addr) (c1 : Nat) (l1 s2 : List UInt8) (i2 n2 : Int) (A2 : Option Addr) (c2 : Nat) (l2 : List UInt8) (w : World) (h1 : Sl w A1 (l1.map byteV)) (h2 : Sl w A2 (l2.map byteV)) :
    Calls Tryd.prog 20 #[.agg #[.string (bs s1), .int .i64 i1, .int .i64 n1, .slice A1 l1.length c1], .agg #[.string (bs s2), .int .i64 i2, .int .i64 n2, .slice A2 l2.length c2]] w fun e w' => e = .returned (.bool (sameR s1 i1 n1 l1 s2 i2 n2 l2)) ∧ Below w.heap.size w w' := by
  obtain ⟨r, hr⟩ : ∃ r, sameR s1 i1 n1 l1 s2 i2 n2 l2 = r := ⟨_, rfl⟩
  rw [hr]
  have HB := Lib.hid (show Below w.heap.size w ((w.alloc (.cells #[.string (bs s1), .int .i64 i1, .int .i64 n1, .slice A1 l1.length c1] 24)).alloc (.cells #[.string (bs s2), .int .i64 i2, .int .i64 n2, .slice A2 l2.length c2] 24)) from ((Below.refl _ _).alloc (Nat.le_refl _) _).alloc (by simp) _)
  have C1 := Lib.hid (same_bytes A1 A2 l1.length l2.length c1 c2 l1 l2 ((w.alloc (.cells #[.string (bs s1), .int .i64 i1, .int .i64 n1, .slice A1 l1.length c1] 24)).alloc (.cells #[.string (bs s2), .int .i64 i2, .int .i64 n2, .slice A2 l2.length c2] 24)) ((h1.alloc _).alloc _) ((h2.alloc _).alloc _) rfl rfl)
  clear h1 h2
  unfold sameR at hr
  generalize l1.length = m1 at HB C1 ⊢
  generalize l2.length = m2 at HB C1 ⊢
  cases q1 : (s1 == s2) with
  | false =>
    rw [q1] at hr
    have hr2 : false = r := hr
    subst hr2
    clear hr
    go_enter Tryd.func20, Tryd.ntmps20
    go_wp2_with fail
    go_ret
    exact ⟨rfl, HB.out⟩
  | true =>
    cases q2 : (i1 == i2) with
    | false =>
      rw [q1, q2] at hr
      have hr2 : false = r := hr
      subst hr2
      clear hr
      go_enter Tryd.func20, Tryd.ntmps20
      go_wp2_with fail
      go_ret
      exact ⟨rfl, HB.out⟩
    | true =>
      cases q3 : (n1 == n2) with
      | false =>
        rw [q1, q2, q3] at hr
        have hr2 : false = r := hr
        subst hr2
        clear hr
        go_enter Tryd.func20, Tryd.ntmps20
        go_wp2_with fail
        go_ret
        exact ⟨rfl, HB.out⟩
      | true =>
        rw [q1, q2, q3] at hr
        have hr2 : (l1 == l2) = r := hr
        rw [hr2] at C1
        clear hr hr2
        go_enter Tryd.func20, Tryd.ntmps20
        go_wp2_with (go_at_call 41; refine C1.out.mono ?_; rintro e w' ⟨rfl, rfl⟩)
        go_ret
        exact ⟨rfl, HB.out⟩
set_option maxRecDepth 100000 in
theorem law_writes (s : List UInt8) (id n : Int) (A : Option Addr) (k c : Nat) (l want : List UInt8) (err : Int) (w : World) (hT : Tb w) (hA : Sl w A (l.map byteV)) (hl : l.length = k) :
    Calls Tryd.prog 23 #[.agg #[.string (bs s), .int .i64 id, .int .i64 n, .slice A k c], .string (bs want), .int .i64 err] w fun e w' => e = .returned (.bool ((lineR s id n l).1 == want && (lineR s id n l).2 == err)) ∧ Below w.heap.size w w' := by
  have HB := Lib.hid (show Below w.heap.size w (w.alloc (.cells #[.string (bs s), .int .i64 id, .int .i64 n, .slice A k c] 24)) from (Below.refl _ _).alloc (Nat.le_refl _) _)
  have C1 := Lib.hid (lines_line s id n A k c l (w.alloc (.cells #[.string (bs s), .int .i64 id, .int .i64 n, .slice A k c] 24)) (hT.below HB.out) (hA.alloc _) hl)
  obtain ⟨x, y, hxy⟩ : ∃ x y, lineR s id n l = (x, y) := ⟨_, _, rfl⟩
  rw [hxy] at C1 ⊢
  clear hA hl hT hxy
  dsimp only at C1 ⊢
  cases q1 : (x == want) with
  | false =>
    go_enter Tryd.func23, Tryd.ntmps23
    go_wp2_with (go_at_call 11; refine C1.out.mono ?_; rintro e w1 ⟨rfl, hb1⟩; have HB1 := Lib.hid (HB.out.trans (hb1.mono HB.out.size)); clear hb1)
    go_ret
    exact ⟨rfl, HB1.out⟩
  | true =>
    go_enter Tryd.func23, Tryd.ntmps23
    go_wp2_with (go_at_call 11; refine C1.out.mono ?_; rintro e w1 ⟨rfl, hb1⟩; have HB1 := Lib.hid (HB.out.trans (hb1.mono HB.out.size)); clear hb1)
    go_ret
    exact ⟨rfl, HB1.out⟩
end Go.Proofs.YthcbidbhkikhmaaDoor
