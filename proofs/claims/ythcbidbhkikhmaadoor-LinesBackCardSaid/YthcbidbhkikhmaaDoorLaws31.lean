/- The law's reads, fails, feed, awake. -/
import Derived.Test.YthcbidbhkikhmaaDoorSame31
namespace Go.Proofs.YthcbidbhkikhmaaDoor
open Go Go.RowKit
def ParsePostN (o : OpN) (e1 e2 : Nat) (w : World) (e : Ending) (w' : World) : Prop :=
  ∃ v, e = .returned (.tuple #[.agg #[.string (bs o.w), .int .i64 (o.id : Nat), .int .i64 (o.n : Nat), v], .agg #[.int .i64 (e1 : Nat), .int .i64 (e2 : Nat)]]) ∧
    w'.ownsRow w.heap.size 5 1 v o.b.length (o.b.map byteV) ∧ Below w.heap.size w w'
def faultR (r : Except (Nat × Nat) OpN) (e a : Int) : Bool := (((errOf r).1 : Nat) : Int) == e && (((errOf r).2 : Nat) : Int) == a
def sameN (o : OpN) (s : List UInt8) (id n : Int) (l : List UInt8) : Bool := sameR o.w (o.id : Int) (o.n : Int) o.b s id n l
theorem lines_parse_ref (line : List UInt8) (w : World) (hsz : line.length ≤ 10000) : Calls Tryd.prog 16 #[.string (bs line)] w (ParsePost (refP line) w) := by rw [← par_ref]; exact lines_parse line w hsz
set_option maxRecDepth 100000 in
set_option maxHeartbeats 2000000 in
theorem law_reads (line s : List UInt8) (id n : Int) (A : Option Addr) (c : Nat) (l : List UInt8) (w : World) (hsz : line.length ≤ 10000) (hA : Sl w A (l.map byteV)) :
    Calls Tryd.prog 25 #[.string (bs line), .agg #[.string (bs s), .int .i64 id, .int .i64 n, .slice A l.length c]] w fun e w' => e = .returned (.bool (faultR (refP line) 0 0 && sameN (opOf (refP line)) s id n l)) ∧ Below w.heap.size w w' := by
  have HB := Lib.hid (show Below w.heap.size w (w.alloc (.cells #[.string (bs s), .int .i64 id, .int .i64 n, .slice A l.length c] 24)) from (Below.refl _ _).alloc (Nat.le_refl _) _)
  have HX := Lib.hid (Blk.new w 24 #[.string (bs s), .int .i64 id, .int .i64 n, .slice A l.length c])
  have HA := Lib.hid (hA.alloc (.cells #[.string (bs s), .int .i64 id, .int .i64 n, .slice A l.length c] 24))
  have C1 := Lib.hid (lines_parse_ref line (w.alloc (.cells #[.string (bs s), .int .i64 id, .int .i64 n, .slice A l.length c] 24)) hsz)
  clear hA
  have C2 : Hid (Calls Tryd.prog 16 #[.string (bs line)] (w.alloc (.cells #[.string (bs s), .int .i64 id, .int .i64 n, .slice A l.length c] 24)) (ParsePostN (opOf (refP line)) (errOf (refP line)).1 (errOf (refP line)).2 (w.alloc (.cells #[.string (bs s), .int .i64 id, .int .i64 n, .slice A l.length c] 24)))) := C1
  unfold faultR
  clear C1
  have C1 := C2
  clear C2
  generalize opOf (refP line) = o at C1 ⊢
  generalize (errOf (refP line)).1 = e1 at C1 ⊢
  generalize (errOf (refP line)).2 = e2 at C1 ⊢
  by_cases h1 : e1 = 0
  · subst h1
    by_cases h2 : e2 = 0
    · subst h2
      rw [show ((((0 : Nat) : Int) == 0) && (((0 : Nat) : Int) == 0)) = true from rfl, Bool.true_and]
      unfold sameN
      go_enter Tryd.func25, Tryd.ntmps25
      go_wp2_with (first | (go_at_call 16; refine C1.out.mono ?_; rintro e w1 ⟨v, rfl, ho1, hb1⟩; have HB1 := Lib.hid (HB.out.trans (hb1.mono HB.out.size)); obtain ⟨A1, c1, rfl, hS1⟩ := own_sl ho1; have hX1 := (HX.out.below hb1 HX.out.lt).alloc (.cells #[.string (bs o.w), .int .i64 (o.id : Int), .int .i64 (o.n : Int), .slice A1 o.b.length c1] 24) |>.alloc (.cells #[.int .i64 0, .int .i64 0] 34); have x0 := hX1.cell 0; have x1 := hX1.cell 1; have x2 := hX1.cell 2; have x3 := hX1.cell 3; have HSO := Lib.hid (same_op o.w (o.id : Int) (o.n : Int) A1 c1 o.b s id n A c l ((w1.alloc (.cells #[.string (bs o.w), .int .i64 (o.id : Int), .int .i64 (o.n : Int), .slice A1 o.b.length c1] 24)).alloc (.cells #[.int .i64 0, .int .i64 0] 34)) ((hS1.alloc _).alloc _) (((HA.out.below hb1).alloc _).alloc _)); have HB2 := Lib.hid ((HB1.out.alloc HB1.out.size (.cells #[.string (bs o.w), .int .i64 (o.id : Int), .int .i64 (o.n : Int), .slice A1 o.b.length c1] 24)).alloc (by have := HB1.out.size; rw [World.size_alloc]; omega) (.cells #[.int .i64 0, .int .i64 0] 34)); clear ho1 hb1) | (go_at_call 20; refine HSO.out.mono ?_; rintro e w5 ⟨rfl, hb5⟩; have HB5 := Lib.hid (HB2.out.trans (hb5.mono HB2.out.size)); clear hb5))
      go_ret
      exact ⟨rfl, HB5.out⟩
    · rw [show ((((0 : Nat) : Int) == 0) && ((e2 : Int) == 0)) = false by rw [Bool.and_eq_false_iff]; exact Or.inr (by rw [beq_eq_false_iff_ne]; omega), Bool.false_and]
      have q2 : ((e2 : Int) == 0) = false := by rw [beq_eq_false_iff_ne]; omega
      have q3 : ¬ (e2 : Int) = 0 := by omega
      clear h2
      go_enter Tryd.func25, Tryd.ntmps25
      go_wp2_with (go_at_call 16; refine C1.out.mono ?_; rintro e w1 ⟨v, rfl, ho1, hb1⟩; have HB1 := Lib.hid (HB.out.trans (hb1.mono HB.out.size)); obtain ⟨A1, c1, rfl, hS1⟩ := own_sl ho1; have hX1 := (HX.out.below hb1 HX.out.lt).alloc (.cells #[.string (bs o.w), .int .i64 (o.id : Int), .int .i64 (o.n : Int), .slice A1 o.b.length c1] 24) |>.alloc (.cells #[.int .i64 0, .int .i64 (e2 : Int)] 34); have x0 := hX1.cell 0; have x1 := hX1.cell 1; have x2 := hX1.cell 2; have x3 := hX1.cell 3; have HSO := Lib.hid (same_op o.w (o.id : Int) (o.n : Int) A1 c1 o.b s id n A c l ((w1.alloc (.cells #[.string (bs o.w), .int .i64 (o.id : Int), .int .i64 (o.n : Int), .slice A1 o.b.length c1] 24)).alloc (.cells #[.int .i64 0, .int .i64 (e2 : Int)] 34)) ((hS1.alloc _).alloc _) (((HA.out.below hb1).alloc _).alloc _)); have HB2 := Lib.hid ((HB1.out.alloc HB1.out.size (.cells #[.string (bs o.w), .int .i64 (o.id : Int), .int .i64 (o.n : Int), .slice A1 o.b.length c1] 24)).alloc (by have := HB1.out.size; rw [World.size_alloc]; omega) (.cells #[.int .i64 0, .int .i64 (e2 : Int)] 34)); clear ho1 hb1)
      go_ret
      exact ⟨rfl, HB2.out⟩
  · rw [show (((e1 : Int) == 0) && ((e2 : Int) == 0)) = false by rw [Bool.and_eq_false_iff]; exact Or.inl (by rw [beq_eq_false_iff_ne]; omega), Bool.false_and]
    have q2 : ((e1 : Int) == 0) = false := by rw [beq_eq_false_iff_ne]; omega
    have q3 : ¬ (e1 : Int) = 0 := by omega
    clear h1
    go_enter Tryd.func25, Tryd.ntmps25
    go_wp2_with (go_at_call 16; refine C1.out.mono ?_; rintro e w1 ⟨v, rfl, ho1, hb1⟩; have HB1 := Lib.hid (HB.out.trans (hb1.mono HB.out.size)); obtain ⟨A1, c1, rfl, hS1⟩ := own_sl ho1; have hX1 := (HX.out.below hb1 HX.out.lt).alloc (.cells #[.string (bs o.w), .int .i64 (o.id : Int), .int .i64 (o.n : Int), .slice A1 o.b.length c1] 24) |>.alloc (.cells #[.int .i64 (e1 : Int), .int .i64 (e2 : Int)] 34); have x0 := hX1.cell 0; have x1 := hX1.cell 1; have x2 := hX1.cell 2; have x3 := hX1.cell 3; have HSO := Lib.hid (same_op o.w (o.id : Int) (o.n : Int) A1 c1 o.b s id n A c l ((w1.alloc (.cells #[.string (bs o.w), .int .i64 (o.id : Int), .int .i64 (o.n : Int), .slice A1 o.b.length c1] 24)).alloc (.cells #[.int .i64 (e1 : Int), .int .i64 (e2 : Int)] 34)) ((hS1.alloc _).alloc _) (((HA.out.below hb1).alloc _).alloc _)); have HB2 := Lib.hid ((HB1.out.alloc HB1.out.size (.cells #[.string (bs o.w), .int .i64 (o.id : Int), .int .i64 (o.n : Int), .slice A1 o.b.length c1] 24)).alloc (by have := HB1.out.size; rw [World.size_alloc]; omega) (.cells #[.int .i64 (e1 : Int), .int .i64 (e2 : Int)] 34)); clear ho1 hb1)
    go_ret
    exact ⟨rfl, HB2.out⟩
set_option maxRecDepth 100000 in
set_option maxHeartbeats 2000000 in
theorem law_fails (line : List UInt8) (pl : Int) (w : World) (hsz : line.length ≤ 10000) :
    Calls Tryd.prog 24 #[.string (bs line), .int .i64 pl] w fun e w' => e = .returned (.bool (faultR (refP line) 14 pl && sameN (opOf (refP line)) [] 0 0 [])) ∧ Below w.heap.size w w' := by
  have C1 : Hid (Calls Tryd.prog 16 #[.string (bs line)] w (ParsePostN (opOf (refP line)) (errOf (refP line)).1 (errOf (refP line)).2 w)) := Lib.hid (lines_parse_ref line w hsz)
  unfold faultR
  generalize opOf (refP line) = o at C1 ⊢
  generalize (errOf (refP line)).1 = e1 at C1 ⊢
  generalize (errOf (refP line)).2 = e2 at C1 ⊢
  by_cases h1 : e1 = 14
  · subst h1
    by_cases h2 : (e2 : Int) = pl
    · subst h2
      rw [show ((((14 : Nat) : Int) == 14) && ((e2 : Int) == (e2 : Int))) = true by simp, Bool.true_and]
      go_enter Tryd.func24, Tryd.ntmps24
      go_wp2_with (first | (go_at_call 16; refine C1.out.mono ?_; rintro e w1 ⟨v, rfl, ho1, hb1⟩; obtain ⟨A1, c1, rfl, hS1⟩ := own_sl ho1; have HSO : Hid (Calls Tryd.prog 20 #[.agg #[.string (bs o.w), .int .i64 (o.id : Int), .int .i64 (o.n : Int), .slice A1 o.b.length c1], .agg #[.string ⟨#[]⟩, .int .i64 0, .int .i64 0, .slice none 0 0]] ((w1.alloc (.cells #[.string (bs o.w), .int .i64 (o.id : Int), .int .i64 (o.n : Int), .slice A1 o.b.length c1] 24)).alloc (.cells #[.int .i64 14, .int .i64 (e2 : Int)] 34)) (fun e w' => e = .returned (.bool (sameN o [] 0 0 [])) ∧ Below ((w1.alloc (.cells #[.string (bs o.w), .int .i64 (o.id : Int), .int .i64 (o.n : Int), .slice A1 o.b.length c1] 24)).alloc (.cells #[.int .i64 14, .int .i64 (e2 : Int)] 34)).heap.size ((w1.alloc (.cells #[.string (bs o.w), .int .i64 (o.id : Int), .int .i64 (o.n : Int), .slice A1 o.b.length c1] 24)).alloc (.cells #[.int .i64 14, .int .i64 (e2 : Int)] 34)) w')) := Lib.hid (same_op o.w (o.id : Int) (o.n : Int) A1 c1 o.b [] 0 0 none 0 [] ((w1.alloc (.cells #[.string (bs o.w), .int .i64 (o.id : Int), .int .i64 (o.n : Int), .slice A1 o.b.length c1] 24)).alloc (.cells #[.int .i64 14, .int .i64 (e2 : Int)] 34)) ((hS1.alloc _).alloc _) (Sl.nil _ _)); have HB2 := Lib.hid ((hb1.alloc hb1.size (.cells #[.string (bs o.w), .int .i64 (o.id : Int), .int .i64 (o.n : Int), .slice A1 o.b.length c1] 24)).alloc (by have := hb1.size; rw [World.size_alloc]; omega) (.cells #[.int .i64 14, .int .i64 (e2 : Int)] 34)); clear ho1 hb1) | (go_at_call 20; refine HSO.out.mono ?_; rintro e w5 ⟨rfl, hb5⟩; have HB5 := Lib.hid (HB2.out.trans (hb5.mono HB2.out.size)); clear hb5))
      go_ret
      exact ⟨rfl, HB5.out⟩
    · rw [show ((((14 : Nat) : Int) == 14) && ((e2 : Int) == pl)) = false by rw [Bool.and_eq_false_iff]; exact Or.inr (by rw [beq_eq_false_iff_ne]; exact h2), Bool.false_and]
      have q2 : ((e2 : Int) == pl) = false := by rw [beq_eq_false_iff_ne]; exact h2
      go_enter Tryd.func24, Tryd.ntmps24
      go_wp2_with (go_at_call 16; refine C1.out.mono ?_; rintro e w1 ⟨v, rfl, ho1, hb1⟩; obtain ⟨A1, c1, rfl, hS1⟩ := own_sl ho1; have HSO : Hid (Calls Tryd.prog 20 #[.agg #[.string (bs o.w), .int .i64 (o.id : Int), .int .i64 (o.n : Int), .slice A1 o.b.length c1], .agg #[.string ⟨#[]⟩, .int .i64 0, .int .i64 0, .slice none 0 0]] ((w1.alloc (.cells #[.string (bs o.w), .int .i64 (o.id : Int), .int .i64 (o.n : Int), .slice A1 o.b.length c1] 24)).alloc (.cells #[.int .i64 14, .int .i64 (e2 : Int)] 34)) (fun e w' => e = .returned (.bool (sameN o [] 0 0 [])) ∧ Below ((w1.alloc (.cells #[.string (bs o.w), .int .i64 (o.id : Int), .int .i64 (o.n : Int), .slice A1 o.b.length c1] 24)).alloc (.cells #[.int .i64 14, .int .i64 (e2 : Int)] 34)).heap.size ((w1.alloc (.cells #[.string (bs o.w), .int .i64 (o.id : Int), .int .i64 (o.n : Int), .slice A1 o.b.length c1] 24)).alloc (.cells #[.int .i64 14, .int .i64 (e2 : Int)] 34)) w')) := Lib.hid (same_op o.w (o.id : Int) (o.n : Int) A1 c1 o.b [] 0 0 none 0 [] ((w1.alloc (.cells #[.string (bs o.w), .int .i64 (o.id : Int), .int .i64 (o.n : Int), .slice A1 o.b.length c1] 24)).alloc (.cells #[.int .i64 14, .int .i64 (e2 : Int)] 34)) ((hS1.alloc _).alloc _) (Sl.nil _ _)); have HB2 := Lib.hid ((hb1.alloc hb1.size (.cells #[.string (bs o.w), .int .i64 (o.id : Int), .int .i64 (o.n : Int), .slice A1 o.b.length c1] 24)).alloc (by have := hb1.size; rw [World.size_alloc]; omega) (.cells #[.int .i64 14, .int .i64 (e2 : Int)] 34)); clear ho1 hb1)
      go_ret
      exact ⟨rfl, HB2.out⟩
  · rw [show (((e1 : Int) == 14) && ((e2 : Int) == pl)) = false by rw [Bool.and_eq_false_iff]; exact Or.inl (by rw [beq_eq_false_iff_ne]; omega), Bool.false_and]
    have q2 : ((e1 : Int) == 14) = false := by rw [beq_eq_false_iff_ne]; omega
    have q3 : ¬ (e1 : Int) = 14 := by omega
    clear h1
    go_enter Tryd.func24, Tryd.ntmps24
    go_wp2_with (go_at_call 16; refine C1.out.mono ?_; rintro e w1 ⟨v, rfl, ho1, hb1⟩; obtain ⟨A1, c1, rfl, hS1⟩ := own_sl ho1; have HSO : Hid (Calls Tryd.prog 20 #[.agg #[.string (bs o.w), .int .i64 (o.id : Int), .int .i64 (o.n : Int), .slice A1 o.b.length c1], .agg #[.string ⟨#[]⟩, .int .i64 0, .int .i64 0, .slice none 0 0]] ((w1.alloc (.cells #[.string (bs o.w), .int .i64 (o.id : Int), .int .i64 (o.n : Int), .slice A1 o.b.length c1] 24)).alloc (.cells #[.int .i64 (e1 : Int), .int .i64 (e2 : Int)] 34)) (fun e w' => e = .returned (.bool (sameN o [] 0 0 [])) ∧ Below ((w1.alloc (.cells #[.string (bs o.w), .int .i64 (o.id : Int), .int .i64 (o.n : Int), .slice A1 o.b.length c1] 24)).alloc (.cells #[.int .i64 (e1 : Int), .int .i64 (e2 : Int)] 34)).heap.size ((w1.alloc (.cells #[.string (bs o.w), .int .i64 (o.id : Int), .int .i64 (o.n : Int), .slice A1 o.b.length c1] 24)).alloc (.cells #[.int .i64 (e1 : Int), .int .i64 (e2 : Int)] 34)) w')) := Lib.hid (same_op o.w (o.id : Int) (o.n : Int) A1 c1 o.b [] 0 0 none 0 [] ((w1.alloc (.cells #[.string (bs o.w), .int .i64 (o.id : Int), .int .i64 (o.n : Int), .slice A1 o.b.length c1] 24)).alloc (.cells #[.int .i64 (e1 : Int), .int .i64 (e2 : Int)] 34)) ((hS1.alloc _).alloc _) (Sl.nil _ _)); have HB2 := Lib.hid ((hb1.alloc hb1.size (.cells #[.string (bs o.w), .int .i64 (o.id : Int), .int .i64 (o.n : Int), .slice A1 o.b.length c1] 24)).alloc (by have := hb1.size; rw [World.size_alloc]; omega) (.cells #[.int .i64 (e1 : Int), .int .i64 (e2 : Int)] 34)); clear ho1 hb1)
    go_ret
    exact ⟨rfl, HB2.out⟩
def FeedPost (w : World) (e : Ending) (w' : World) : Prop := ∃ A c, e = .returned (.agg #[.string (bs wFeed), .int .i64 3, .int .i64 0, .slice A 2 c]) ∧ Sl w' A ([1, 255].map byteV) ∧ Below w.heap.size w w'
theorem law_feed (w : World) : Calls Tryd.prog 27 #[] w (FeedPost w) := by
  have hb := (Blk.new (w.alloc (.cells #[.string ⟨#[102, 101, 101, 100]⟩, .int .i64 3, .int .i64 0, .slice (some ⟨w.heap.size + 1, 0, none⟩) 2 2] 24)) 5 #[.int .u8 1, .int .u8 255]).at_eq (World.size_alloc w _)
  have HBk := Lib.hid hb
  clear hb
  go_enter Tryd.func27, Tryd.ntmps27
  go_wp2_with fail
  refine bodyPost_ret (by simp [results, Tryd.results27, go_sem]; try rfl) rfl ?_
  exact ⟨_, _, rfl, HBk.out.sl 0, ((Below.refl _ _).alloc (Nat.le_refl _) _).alloc (by simp) _⟩
def tFeed : List UInt8 := [102, 101, 101, 100, 32, 51, 32, 48, 49, 102, 102]
theorem ex_line_feed : lineR wFeed 3 0 [1, 255] = (tFeed, 0) := by
  unfold lineR
  rw [show okP wFeed 3 0 ([1, 255] : List UInt8).length = true from by decide, if_pos rfl]
  have h3 : digR 3 = [51] := by rw [digR]; rfl
  show (wFeed ++ ((32 :: digR 3) ++ ((32 :: hexR [1, 255]) ++ [])), (0 : Int)) = _
  rw [h3]
  rfl
theorem ex_line_open : lineR wOpen 0 0 [] = (wOpen, 0) := by
  unfold lineR
  rw [show okP wOpen 0 0 ([] : List UInt8).length = true from by decide, if_pos rfl]
  rfl
theorem ex_read_feed : refP tFeed = .ok ⟨wFeed, 3, 0, [1, 255]⟩ := by rfl
theorem ex_fail_go : refP [103, 111, 32, 49] = .error (14, 0) := by rfl
set_option maxRecDepth 100000 in
set_option maxHeartbeats 2000000 in
theorem law_awake (w : World) (hT : Tb w) : Calls Tryd.prog 9 #[] w fun e w' => e = .returned (.bool true) ∧ Below w.heap.size w w' := by
  have HT := Lib.hid hT
  clear hT
  have C1 : Hid (∀ W A c, Below w.heap.size w W → Sl W A (([1, 255] : List UInt8).map byteV) → Calls Tryd.prog 23 #[.agg #[.string ⟨#[102, 101, 101, 100]⟩, .int .i64 3, .int .i64 0, .slice A 2 c], .string ⟨#[102, 101, 101, 100, 32, 51, 32, 48, 49, 102, 102]⟩, .int .i64 0] W fun e w' => e = .returned (.bool true) ∧ Below W.heap.size W w') := Lib.hid (fun W A c hb hS => by
    have h := law_writes wFeed 3 0 A 2 c [1, 255] tFeed 0 W (HT.out.below hb) hS rfl
    rw [ex_line_feed] at h
    exact h)
  have C2 : Hid (∀ W A c, Sl W A (([1, 255] : List UInt8).map byteV) → Calls Tryd.prog 25 #[.string ⟨#[102, 101, 101, 100, 32, 51, 32, 48, 49, 102, 102]⟩, .agg #[.string ⟨#[102, 101, 101, 100]⟩, .int .i64 3, .int .i64 0, .slice A 2 c]] W fun e w' => e = .returned (.bool true) ∧ Below W.heap.size W w') := Lib.hid (fun W A c hS => by
    have h := law_reads tFeed wFeed 3 0 A c [1, 255] W (by decide) hS
    rw [ex_read_feed] at h
    exact h)
  have C3 : Hid (∀ W, Calls Tryd.prog 24 #[.string ⟨#[103, 111, 32, 49]⟩, .int .i64 0] W fun e w' => e = .returned (.bool true) ∧ Below W.heap.size W w') := Lib.hid (fun W => by
    have h := law_fails [103, 111, 32, 49] 0 W (by decide)
    rw [ex_fail_go] at h
    exact h)
  have C4 : Hid (∀ W, Below w.heap.size w W → Calls Tryd.prog 23 #[.agg #[.string ⟨#[111, 112, 101, 110]⟩, .int .i64 0, .int .i64 0, .slice none 0 0], .string ⟨#[111, 112, 101, 110]⟩, .int .i64 0] W fun e w' => e = .returned (.bool true) ∧ Below W.heap.size W w') := Lib.hid (fun W hb => by
    have h := law_writes wOpen 0 0 none 0 0 [] wOpen 0 W (HT.out.below hb) (Sl.nil _ _) rfl
    rw [ex_line_open] at h
    exact h)
  have HB := Lib.hid (Below.refl w.heap.size w)
  have tok1 : True := trivial
  have tok2 : True := trivial
  go_enter Tryd.func9, Tryd.ntmps9
  go_wp2_with (first
    | (go_at_call 27; have _t := tok1; refine (law_feed _).mono ?_; rintro e w1 ⟨A1, c1, rfl, hS1, hb1⟩; clear tok1; have HS1 := Lib.hid hS1; have HB' := Lib.hid (HB.out.trans (hb1.mono HB.out.size)); clear HB hb1 hS1; have HB := HB'; clear HB')
    | (go_at_call 23; have _t := tok2; refine (C1.out _ A1 c1 HB.out HS1.out).mono ?_; rintro e w2 ⟨rfl, hb2⟩; clear tok2 C1; have HB' := Lib.hid (HB.out.trans (hb2.mono HB.out.size)); clear HB hb2; have HB := HB'; clear HB')
    | (go_at_call 27; refine (law_feed _).mono ?_; rintro e w3 ⟨A3, c3, rfl, hS3, hb3⟩; have HS3 := Lib.hid hS3; have HB' := Lib.hid (HB.out.trans (hb3.mono HB.out.size)); clear HB hb3 hS3; have HB := HB'; clear HB')
    | (go_at_call 25; refine (C2.out _ A3 c3 HS3.out).mono ?_; rintro e w4 ⟨rfl, hb4⟩; have HB' := Lib.hid (HB.out.trans (hb4.mono HB.out.size)); clear HB hb4; have HB := HB'; clear HB')
    | (go_at_call 24; refine (C3.out _).mono ?_; rintro e w5 ⟨rfl, hb5⟩; have HB' := Lib.hid (HB.out.trans (hb5.mono HB.out.size)); clear HB hb5; have HB := HB'; clear HB')
    | (go_at_call 23; refine (C4.out _ HB.out).mono ?_; rintro e w6 ⟨rfl, hb6⟩; have HB' := Lib.hid (HB.out.trans (hb6.mono HB.out.size)); clear HB hb6; have HB := HB'; clear HB'))
  go_ret
  exact ⟨rfl, HB.out⟩
end Go.Proofs.YthcbidbhkikhmaaDoor
