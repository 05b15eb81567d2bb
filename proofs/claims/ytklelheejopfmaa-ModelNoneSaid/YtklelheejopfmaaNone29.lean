/- layer 29: a model that is nil, or that nobody made. -/
import Derived.Test.YtklelheejopfmaaOne29
namespace Go.Proofs.Ytklelheejopfmaa
open Go Go.RowKit Go.Maps
attribute [local go_sem] Oper.semAt_some
/-- a pointer to no model: nil, or one that nobody made -/
def NoM (w : World) (p : Option Addr) : Prop := p = none ∨ ∃ b, p = some ⟨b, 0, none⟩ ∧ w.cell? ⟨b, 5, none⟩ = some (.pointer none)
theorem NoM.later {w w' : World} {p : Option Addr} (h : NoM w p) (hb : Below w.heap.size w w') : NoM w' p := by
  rcases h with rfl | ⟨b, rfl, hc⟩
  · exact .inl rfl
  · exact .inr ⟨b, rfl, (hb.cell (lt_of_some hc)).trans hc⟩
theorem no_none (w : World) (p : Option Addr) (h : NoM w p) : Calls Try.prog 33 #[.pointer p] w fun e w' => e = .returned (.bool true) ∧ w = w' := by
  rcases h with rfl | ⟨b, rfl, hc⟩
  · exact mod_none_nil w
  · exact mod_none_zero w b hc
theorem no_ask (w : World) (p : Option Addr) (h : NoM w p) (id : Int) (fv : Value) : Calls Try.prog 24 #[.pointer p, .int .i64 id, .int .i64 0, fv] w fun e w' => e = .returned (.tuple #[.int .i64 0, .int .i64 1]) ∧ w = w' := by
  rcases h with rfl | ⟨b, rfl, hc⟩
  · exact ask_nil w id fv
  · exact ask_zero w b hc id fv
theorem no_askS (w : World) (p : Option Addr) (h : NoM w p) (id : Int) (fv : Value) : Calls Try.prog 30 #[.pointer p, .int .i64 id, zeroSt, fv] w fun e w' => e = .returned (.tuple #[zeroSt, .int .i64 1]) ∧ Below w.heap.size w w' := by
  rcases h with rfl | ⟨b, rfl, hc⟩
  · exact askS_nil w id fv
  · exact askS_zero w b hc id fv
set_option maxRecDepth 100000 in
theorem no_Open (w : World) (p : Option Addr) (h : NoM w p) : Calls Try.prog 18 #[.pointer p] w fun e w' => e = .returned (.tuple #[.int .i64 0, .int .i64 1]) ∧ Below w.heap.size w w' := by
  have CN := Lib.hid (no_none w p h)
  clear h
  go_enter Try.func18, Try.ntmps18
  go_wp2_with (go_at_call 33; refine CN.out.mono ?_; rintro e w' ⟨rfl, rfl⟩)
  go_returns
  exact ⟨rfl, Below.refl _ _⟩
set_option maxRecDepth 100000 in
theorem no_Feed (w : World) (p : Option Addr) (h : NoM w p) (id n : Int) : Calls Try.prog 20 #[.pointer p, .int .i64 id, .int .i64 n] w fun e w' => e = .returned (.tuple #[.int .i64 0, .int .i64 1]) ∧ Below w.heap.size w w' := by
  have hb : Below w.heap.size w ((w.alloc (.cells #[.pointer p] 22)).alloc (.cells #[.int .i64 n] 3)) := ((Below.refl _ _).alloc (Nat.le_refl _) _).alloc (by simp) _
  have CA := Lib.hid (fun fv => no_ask _ p (h.later hb) id fv)
  have HB := Lib.hid hb
  clear h hb
  go_enter Try.func20, Try.ntmps20
  go_wp2_with (go_at_call 24; refine (CA.out _).mono ?_; rintro e w' ⟨rfl, rfl⟩)
  go_returns
  exact ⟨rfl, HB.out⟩
set_option maxRecDepth 100000 in
theorem no_Press (w : World) (p : Option Addr) (h : NoM w p) (n : Int) : Calls Try.prog 21 #[.pointer p, .int .i64 n] w fun e w' => e = .returned (.tuple #[.slice none 0 0, .int .i64 1]) ∧ Below w.heap.size w w' := by
  have CN := Lib.hid (no_none w p h)
  clear h
  go_enter Try.func21, Try.ntmps21
  go_wp2_with (go_at_call 33; refine CN.out.mono ?_; rintro e w' ⟨rfl, rfl⟩)
  go_returns
  exact ⟨rfl, Below.refl _ _⟩
set_option maxRecDepth 100000 in
theorem no_Status (w : World) (p : Option Addr) (h : NoM w p) (id : Int) : Calls Try.prog 22 #[.pointer p, .int .i64 id] w fun e w' => e = .returned (.tuple #[zeroSt, .int .i64 1]) ∧ Below w.heap.size w w' := by
  have hb : Below w.heap.size w (w.alloc (.cells #[.int .i64 0, .int .i64 0, .int .i64 0, .int .i64 0, .int .i64 0, .int .i64 0, .int .i64 0] 27)) := (Below.refl _ _).alloc (Nat.le_refl _) _
  have CN := Lib.hid (no_none _ p (h.later hb))
  have HB := Lib.hid hb
  clear h hb
  go_enter Try.func22, Try.ntmps22
  go_wp2_with (go_at_call 33; refine CN.out.mono ?_; rintro e w' ⟨rfl, rfl⟩)
  refine bodyPost_ret (by simp [results, Try.results22, go_sem]; try rfl) rfl ?_
  exact ⟨rfl, HB.out⟩
set_option maxRecDepth 100000 in
theorem no_End (w : World) (p : Option Addr) (h : NoM w p) (id : Int) : Calls Try.prog 10 #[.pointer p, .int .i64 id] w fun e w' => e = .returned (.int .i64 1) ∧ Below w.heap.size w w' := by
  have CA := Lib.hid (fun fv => no_ask _ p h id fv)
  clear h
  go_enter Try.func10, Try.ntmps10
  go_wp2_with (go_at_call 24; refine (CA.out _).mono ?_; rintro e w' ⟨rfl, rfl⟩)
  go_ret
  exact ⟨rfl, Below.refl _ _⟩
set_option maxRecDepth 100000 in
theorem no_See (w : World) (p : Option Addr) (h : NoM w p) (id a b c d e' f g : Int) : Calls Try.prog 7 #[.pointer p, .int .i64 id, .agg #[.int .i64 a, .int .i64 b, .int .i64 c, .int .i64 d, .int .i64 e', .int .i64 f, .int .i64 g]] w fun e w' => e = .returned (.int .i64 1) ∧ Below w.heap.size w w' := by
  have hb : Below w.heap.size w ((w.alloc (.cells #[.pointer p] 22)).alloc (.cells #[.int .i64 a, .int .i64 b, .int .i64 c, .int .i64 d, .int .i64 e', .int .i64 f, .int .i64 g] 27)) := ((Below.refl _ _).alloc (Nat.le_refl _) _).alloc (by simp) _
  have CA := Lib.hid (fun fv => no_ask _ p (h.later hb) id fv)
  have HB := Lib.hid hb
  clear h hb
  go_enter Try.func7, Try.ntmps7
  go_wp2_with (go_at_call 24; refine (CA.out _).mono ?_; rintro e w' ⟨rfl, rfl⟩)
  go_ret
  exact ⟨rfl, HB.out⟩
set_option maxRecDepth 100000 in
theorem no_Drain (w : World) (p : Option Addr) (h : NoM w p) (id : Int) : Calls Try.prog 13 #[.pointer p, .int .i64 id] w fun e w' => e = .returned (.int .i64 1) ∧ Below w.heap.size w w' := by
  have CA := Lib.hid (fun fv => no_askS w p h id fv)
  clear h
  go_enter Try.func13, Try.ntmps13
  go_wp2_with (go_at_call 30; refine (CA.out _).mono ?_; rintro e w1 ⟨rfl, hb1⟩; have HB1 := Lib.hid hb1; clear hb1)
  go_ret
  exact ⟨rfl, HB1.out.alloc HB1.out.size _⟩
set_option maxRecDepth 100000 in
theorem no_out (w : World) (p : Option Addr) (h : NoM w p) (id cs : Int) : Calls Try.prog 29 #[.pointer p, .int .i64 id, .int .i64 cs] w fun e w' => e = .returned (.int .i64 1) ∧ Below w.heap.size w w' := by
  have CA := Lib.hid (fun fv => no_ask _ p h id fv)
  clear h
  go_enter Try.func29, Try.ntmps29
  go_wp2_with (go_at_call 24; refine (CA.out _).mono ?_; rintro e w' ⟨rfl, rfl⟩)
  go_ret
  exact ⟨rfl, Below.refl _ _⟩
theorem no_Close (w : World) (p : Option Addr) (h : NoM w p) (id : Int) : Calls Try.prog 11 #[.pointer p, .int .i64 id] w fun e w' => e = .returned (.int .i64 1) ∧ Below w.heap.size w w' := by
  have CA := Lib.hid (no_out w p h id 21)
  clear h
  go_enter Try.func11, Try.ntmps11
  go_wp2_with (go_at_call 29; refine CA.out.mono ?_; rintro e w1 ⟨rfl, hr⟩; have HR := Lib.hid hr; clear hr)
  go_ret
  exact ⟨rfl, HR.out⟩
theorem no_Evict (w : World) (p : Option Addr) (h : NoM w p) (id : Int) : Calls Try.prog 23 #[.pointer p, .int .i64 id] w fun e w' => e = .returned (.int .i64 1) ∧ Below w.heap.size w w' := by
  have CA := Lib.hid (no_out w p h id 22)
  clear h
  go_enter Try.func23, Try.ntmps23
  go_wp2_with (go_at_call 29; refine CA.out.mono ?_; rintro e w1 ⟨rfl, hr⟩; have HR := Lib.hid hr; clear hr)
  go_ret
  exact ⟨rfl, HR.out⟩
theorem no_Live (w : World) (p : Option Addr) (h : NoM w p) : Calls Try.prog 15 #[.pointer p] w fun e w' => e = .returned (.slice none 0 0) ∧ Below w.heap.size w w' := by
  have CN := Lib.hid (no_none w p h)
  clear h
  go_enter Try.func15, Try.ntmps15
  go_wp2_with (go_at_call 33; refine CN.out.mono ?_; rintro e w' ⟨rfl, rfl⟩)
  go_ret
  exact ⟨rfl, Below.refl _ _⟩
theorem no_Free (w : World) (p : Option Addr) (h : NoM w p) : Calls Try.prog 14 #[.pointer p] w fun e w' => e = .returned (.int .i64 0) ∧ Below w.heap.size w w' := by
  have CN := Lib.hid (no_none w p h)
  clear h
  go_enter Try.func14, Try.ntmps14
  go_wp2_with (go_at_call 33; refine CN.out.mono ?_; rintro e w' ⟨rfl, rfl⟩)
  go_ret
  exact ⟨rfl, Below.refl _ _⟩
end Go.Proofs.Ytklelheejopfmaa
