/- The chapter's examples. -/
import Derived.Test.YthcbidbhkikhmaaDoorOps31
namespace Go.Proofs.YthcbidbhkikhmaaDoor
open Go Go.RowKit
def splitS (c : UInt8) : List UInt8 → List (List UInt8)
  | [] => [[]]
  | x :: s => if x = c then [] :: splitS c s else match splitS c s with
    | [] => [[x]]
    | p :: ps => (x :: p) :: ps
theorem split_S (c : UInt8) : ∀ s : List UInt8, splitL c s = splitS c s
  | [] => by rw [splitL_last (by simp [cutAt])]; rfl
  | x :: s => by
    have ih := split_S c s
    by_cases h : x = c
    · subst h
      have h0 : cutAt x (x :: s) = 0 := by simp [cutAt]
      rw [splitL_cons (by rw [h0]; simp), h0]
      simp only [splitS, if_true]
      rw [← ih]
      rfl
    · have h2 : cutAt c (x :: s) = cutAt c s + 1 := by simp [cutAt, h]
      simp only [splitS, if_neg h]
      rw [← ih]
      by_cases hc : cutAt c s < s.length
      · rw [splitL_cons (s := x :: s) (by rw [h2]; simpa using hc), h2, splitL_cons hc]
        rfl
      · rw [splitL_last (s := x :: s) (by rw [h2]; simpa using hc), splitL_last hc]
def wGo : List UInt8 := [103, 111]
theorem ex_w1 : lineR wFeed 3 0 [] = ([102, 101, 101, 100, 32, 51, 32, 45], 0) := by
  unfold lineR
  rw [show okP wFeed 3 0 ([] : List UInt8).length = true from by decide, if_pos rfl]
  have h3 : digR 3 = [51] := by rw [digR]; rfl
  show (wFeed ++ ((32 :: digR 3) ++ ((32 :: hexR []) ++ [])), (0 : Int)) = _
  rw [h3]; rfl
theorem ex_w2 : lineR wPick 2 9 [] = ([112, 105, 99, 107, 32, 50, 32, 57], 0) := by
  unfold lineR
  rw [show okP wPick 2 9 ([] : List UInt8).length = true from by decide, if_pos rfl]
  have h2 : digR 2 = [50] := by rw [digR]; rfl
  have h9 : digR 9 = [57] := by rw [digR]; rfl
  show (wPick ++ ((32 :: digR 2) ++ ((32 :: digR 9) ++ [])), (0 : Int)) = _
  rw [h2, h9]; rfl
theorem ex_w3 : lineR wPress 0 4 [] = ([112, 114, 101, 115, 115, 32, 52], 0) := by
  unfold lineR
  rw [show okP wPress 0 4 ([] : List UInt8).length = true from by decide, if_pos rfl]
  have h4 : digR 4 = [52] := by rw [digR]; rfl
  show (wPress ++ ((32 :: digR 4) ++ []), (0 : Int)) = _
  rw [h4]; rfl
theorem ex_w4 : lineR wGo 0 0 [] = ([], 2) := by rfl
theorem ex_f1 : refP [112, 105, 99, 107, 32, 50] = .error (14, 6) := by rfl
theorem ex_f2 : refP [112, 105, 99, 107, 32, 48, 50, 32, 49] = .error (14, 5) := by rfl
theorem ex_f3 : refP [111, 112, 101, 110, 32, 49] = .error (14, 4) := by rfl
theorem ex_f4 : refP [102, 101, 101, 100, 32, 51, 32, 48, 70] = .error (14, 7) := by rfl
def tAll : List UInt8 := [111, 112, 101, 110, 10, 10, 35, 32, 120, 10, 101, 110, 100, 32, 49, 10]
def opsAll : List OpN := [⟨wOpen, 0, 0, []⟩, ⟨wEnd, 1, 0, []⟩]
theorem ex_a1 : allP refP tAll = .ok opsAll := by unfold allP; rw [split_S]; rfl
theorem ex_a2 : allP refP [111, 112, 101, 110, 10, 101, 110, 100] = .error (14, 8) := by unfold allP; rw [split_S]; rfl
theorem ex_a3 : allP refP [] = .ok [] := by unfold allP; rw [split_S]; rfl
theorem lines_all_ref (text : List UInt8) (w : World) (hsz : text.length ≤ 10000) : Calls Tryd.prog 18 #[.string (bs text)] w (AllPost (allP refP text) w) := by rw [← all_ref]; exact lines_all text w hsz
theorem AllPost.of_ok {os : List OpN} {w w' : World} {e : Ending} (h : AllPost (.ok os) w e w') : ∃ A c, e = .returned (.tuple #[.slice A os.length c, .agg #[.int .i64 0, .int .i64 0]]) ∧ ReadOps w' (.slice A os.length c) os ∧ Below w.heap.size w w' := by
  obtain ⟨v, rfl, ho, hb⟩ := h
  have hr := ReadOps.of_row ho
  obtain ⟨A, c, vs, e, h1, h2⟩ := hr
  have e' : v = .slice A os.length c := e
  subst e'
  exact ⟨A, c, rfl, ⟨A, c, vs, rfl, h1, h2⟩, hb⟩
theorem AllPost.of_err {a b : Nat} {w w' : World} {e : Ending} (h : AllPost (.error (a, b)) w e w') : ∃ A c, e = .returned (.tuple #[.slice A 0 c, .agg #[.int .i64 (a : Int), .int .i64 (b : Int)]]) ∧ Below w.heap.size w w' := by
  obtain ⟨v, rfl, ho, hb⟩ := h
  have hr := ReadOps.of_row ho
  obtain ⟨A, c, vs, e, h1, h2⟩ := hr
  have e' : v = .slice A 0 c := e
  subst e'
  exact ⟨A, c, rfl, hb⟩
theorem lit_all (W : World) (g : Nat) (hg : W.heap.size = g) : ReadOps (W.alloc (.cells #[.string ⟨#[111, 112, 101, 110]⟩, .int .i64 0, .int .i64 0, .slice none 0 0, .string ⟨#[101, 110, 100]⟩, .int .i64 1, .int .i64 0, .slice none 0 0] 24)) (.slice (some ⟨g, 0, none⟩) 2 2) opsAll :=
  hg ▸ ⟨_, _, [.slice none 0 0, .slice none 0 0], rfl, (Blk.new W 24 #[.string ⟨#[111, 112, 101, 110]⟩, .int .i64 0, .int .i64 0, .slice none 0 0, .string ⟨#[101, 110, 100]⟩, .int .i64 1, .int .i64 0, .slice none 0 0]).sl 0, ⟨none, 0, rfl, Sl.nil _ _⟩, ⟨none, 0, rfl, Sl.nil _ _⟩, trivial⟩
set_option maxRecDepth 100000 in
set_option maxHeartbeats 4000000 in
theorem law_known (w : World) (hT : Tb w) : Calls Tryd.prog 5 #[] w fun e w' => e = .returned (.bool true) ∧ Below w.heap.size w w' := by
  have HT := Lib.hid hT
  clear hT
  have W1 : Hid (∀ W, Below w.heap.size w W → Calls Tryd.prog 23 #[.agg #[.string ⟨#[102, 101, 101, 100]⟩, .int .i64 3, .int .i64 0, .slice none 0 0], .string ⟨#[102, 101, 101, 100, 32, 51, 32, 45]⟩, .int .i64 0] W fun e w' => e = .returned (.bool true) ∧ Below W.heap.size W w') := Lib.hid (fun W hb => by
    have h := law_writes wFeed 3 0 none 0 0 [] [102, 101, 101, 100, 32, 51, 32, 45] 0 W (HT.out.below hb) (Sl.nil _ _) rfl
    rw [ex_w1] at h
    exact h)
  have W2 : Hid (∀ W, Below w.heap.size w W → Calls Tryd.prog 23 #[.agg #[.string ⟨#[112, 105, 99, 107]⟩, .int .i64 2, .int .i64 9, .slice none 0 0], .string ⟨#[112, 105, 99, 107, 32, 50, 32, 57]⟩, .int .i64 0] W fun e w' => e = .returned (.bool true) ∧ Below W.heap.size W w') := Lib.hid (fun W hb => by
    have h := law_writes wPick 2 9 none 0 0 [] [112, 105, 99, 107, 32, 50, 32, 57] 0 W (HT.out.below hb) (Sl.nil _ _) rfl
    rw [ex_w2] at h
    exact h)
  have W3 : Hid (∀ W, Below w.heap.size w W → Calls Tryd.prog 23 #[.agg #[.string ⟨#[112, 114, 101, 115, 115]⟩, .int .i64 0, .int .i64 4, .slice none 0 0], .string ⟨#[112, 114, 101, 115, 115, 32, 52]⟩, .int .i64 0] W fun e w' => e = .returned (.bool true) ∧ Below W.heap.size W w') := Lib.hid (fun W hb => by
    have h := law_writes wPress 0 4 none 0 0 [] [112, 114, 101, 115, 115, 32, 52] 0 W (HT.out.below hb) (Sl.nil _ _) rfl
    rw [ex_w3] at h
    exact h)
  have W4 : Hid (∀ W, Below w.heap.size w W → Calls Tryd.prog 23 #[.agg #[.string ⟨#[103, 111]⟩, .int .i64 0, .int .i64 0, .slice none 0 0], .string ⟨#[]⟩, .int .i64 2] W fun e w' => e = .returned (.bool true) ∧ Below W.heap.size W w') := Lib.hid (fun W hb => by
    have h := law_writes wGo 0 0 none 0 0 [] [] 2 W (HT.out.below hb) (Sl.nil _ _) rfl
    rw [ex_w4] at h
    exact h)
  have F1 : Hid (∀ W, Calls Tryd.prog 24 #[.string ⟨#[112, 105, 99, 107, 32, 50]⟩, .int .i64 6] W fun e w' => e = .returned (.bool true) ∧ Below W.heap.size W w') := Lib.hid (fun W => by
    have h := law_fails [112, 105, 99, 107, 32, 50] 6 W (by decide)
    rw [ex_f1] at h
    exact h)
  have F2 : Hid (∀ W, Calls Tryd.prog 24 #[.string ⟨#[112, 105, 99, 107, 32, 48, 50, 32, 49]⟩, .int .i64 5] W fun e w' => e = .returned (.bool true) ∧ Below W.heap.size W w') := Lib.hid (fun W => by
    have h := law_fails [112, 105, 99, 107, 32, 48, 50, 32, 49] 5 W (by decide)
    rw [ex_f2] at h
    exact h)
  have F3 : Hid (∀ W, Calls Tryd.prog 24 #[.string ⟨#[111, 112, 101, 110, 32, 49]⟩, .int .i64 4] W fun e w' => e = .returned (.bool true) ∧ Below W.heap.size W w') := Lib.hid (fun W => by
    have h := law_fails [111, 112, 101, 110, 32, 49] 4 W (by decide)
    rw [ex_f3] at h
    exact h)
  have F4 : Hid (∀ W, Calls Tryd.prog 24 #[.string ⟨#[102, 101, 101, 100, 32, 51, 32, 48, 70]⟩, .int .i64 7] W fun e w' => e = .returned (.bool true) ∧ Below W.heap.size W w') := Lib.hid (fun W => by
    have h := law_fails [102, 101, 101, 100, 32, 51, 32, 48, 70] 7 W (by decide)
    rw [ex_f4] at h
    exact h)
  have A1 : Hid (∀ W, Calls Tryd.prog 18 #[.string ⟨#[111, 112, 101, 110, 10, 10, 35, 32, 120, 10, 101, 110, 100, 32, 49, 10]⟩] W (AllPost (.ok opsAll) W)) := Lib.hid (fun W => by
    have h := lines_all_ref tAll W (by decide)
    rw [ex_a1] at h
    exact h)
  have A2 : Hid (∀ W, Calls Tryd.prog 18 #[.string ⟨#[111, 112, 101, 110, 10, 101, 110, 100]⟩] W (AllPost (.error (14, 8)) W)) := Lib.hid (fun W => by
    have h := lines_all_ref [111, 112, 101, 110, 10, 101, 110, 100] W (by decide)
    rw [ex_a2] at h
    exact h)
  have A3 : Hid (∀ W, Calls Tryd.prog 18 #[.string ⟨#[]⟩] W (AllPost (.ok []) W)) := Lib.hid (fun W => by
    have h := lines_all_ref [] W (by decide)
    rw [ex_a3] at h
    exact h)
  have CA := Lib.hid (fun W hb => law_awake W (HT.out.below hb))
  have HB := Lib.hid (Below.refl w.heap.size w)
  go_enter Tryd.func5, Tryd.ntmps5
  go_wp2_with (first
    | (go_at_call 23; refine (W1.out _ HB.out).mono ?_; rintro e w2 ⟨rfl, hb2⟩; clear W1; have HB' := Lib.hid (HB.out.trans (hb2.mono HB.out.size)); clear HB hb2; have HB := HB'; clear HB')
    | (go_at_call 23; refine (W2.out _ HB.out).mono ?_; rintro e w2 ⟨rfl, hb2⟩; clear W2; have HB' := Lib.hid (HB.out.trans (hb2.mono HB.out.size)); clear HB hb2; have HB := HB'; clear HB')
    | (go_at_call 23; refine (W3.out _ HB.out).mono ?_; rintro e w2 ⟨rfl, hb2⟩; clear W3; have HB' := Lib.hid (HB.out.trans (hb2.mono HB.out.size)); clear HB hb2; have HB := HB'; clear HB')
    | (go_at_call 23; refine (W4.out _ HB.out).mono ?_; rintro e w2 ⟨rfl, hb2⟩; clear W4; have HB' := Lib.hid (HB.out.trans (hb2.mono HB.out.size)); clear HB hb2; have HB := HB'; clear HB')
    | (go_at_call 24; refine (F1.out _).mono ?_; rintro e w2 ⟨rfl, hb2⟩; clear F1; have HB' := Lib.hid (HB.out.trans (hb2.mono HB.out.size)); clear HB hb2; have HB := HB'; clear HB')
    | (go_at_call 24; refine (F2.out _).mono ?_; rintro e w2 ⟨rfl, hb2⟩; clear F2; have HB' := Lib.hid (HB.out.trans (hb2.mono HB.out.size)); clear HB hb2; have HB := HB'; clear HB')
    | (go_at_call 24; refine (F3.out _).mono ?_; rintro e w2 ⟨rfl, hb2⟩; clear F3; have HB' := Lib.hid (HB.out.trans (hb2.mono HB.out.size)); clear HB hb2; have HB := HB'; clear HB')
    | (go_at_call 24; refine (F4.out _).mono ?_; rintro e w2 ⟨rfl, hb2⟩; clear F4; have HB' := Lib.hid (HB.out.trans (hb2.mono HB.out.size)); clear HB hb2; have HB := HB'; clear HB')
    | (go_at_call 18; refine (A1.out _).mono ?_; intro e w3 hpp; obtain ⟨P1, d1, rfl, hR1, hb3⟩ := hpp.of_ok; clear A1 hpp; have HR1 := Lib.hid hR1; have HB' := Lib.hid ((HB.out.trans (hb3.mono HB.out.size)).alloc (Nat.le_trans HB.out.size hb3.size) (.cells #[.int .i64 0, .int .i64 0] 34)); have KA := Lib.hid (Blk.new w3 34 #[.int .i64 0, .int .i64 0]); clear HB hb3 hR1; have HB := HB'; clear HB')
    | (go_at_call 18; refine (A2.out _).mono ?_; intro e w4 hpp; obtain ⟨P2, d2, rfl, hb4⟩ := hpp.of_err; clear A2 hpp; have HR2 := Lib.hid ((HR1.out.below ((Below.refl _ _).alloc (Nat.le_refl _) (.cells #[.int .i64 0, .int .i64 0] 34))).below hb4); have HB' := Lib.hid ((HB.out.trans (hb4.mono HB.out.size)).alloc (Nat.le_trans HB.out.size hb4.size) (.cells #[.int .i64 14, .int .i64 8] 34)); have KA2 := Lib.hid ((KA.out.below hb4 KA.out.lt).alloc (.cells #[.int .i64 14, .int .i64 8] 34)); have KB := Lib.hid (Blk.new w4 34 #[.int .i64 14, .int .i64 8]); clear HB hb4 HR1 KA; have HB := HB'; clear HB')
    | (go_at_call 18; refine (A3.out _).mono ?_; intro e w5 hpp; obtain ⟨P3, d3, rfl, _, hb5⟩ := hpp.of_ok; clear A3 hpp; have HR3 := Lib.hid (((HR2.out.below ((Below.refl _ _).alloc (Nat.le_refl _) (.cells #[.int .i64 14, .int .i64 8] 34))).below hb5).below ((Below.refl _ _).alloc (Nat.le_refl _) (.cells #[.int .i64 0, .int .i64 0] 34))); have HB' := Lib.hid ((HB.out.trans (hb5.mono HB.out.size)).alloc (Nat.le_trans HB.out.size hb5.size) (.cells #[.int .i64 0, .int .i64 0] 34)); have KA3 := Lib.hid ((KA2.out.below hb5 KA2.out.lt).alloc (.cells #[.int .i64 0, .int .i64 0] 34)); have KB3 := Lib.hid ((KB.out.below hb5 KB.out.lt).alloc (.cells #[.int .i64 0, .int .i64 0] 34)); have KC3 := Lib.hid (Blk.new w5 34 #[.int .i64 0, .int .i64 0]); have a0 := KA3.out.cell 0; have a1 := KA3.out.cell 1; clear HB hb5 HR2 KA2 KB; have HB := HB'; clear HB')
    | (go_at_call 21; refine (same_ops opsAll (.slice P1 opsAll.length d1) (.slice (some ⟨w5.heap.size + 1, 0, none⟩) 2 2) ((w5.alloc (.cells #[.int .i64 0, .int .i64 0] 34)).alloc (.cells #[.string ⟨#[111, 112, 101, 110]⟩, .int .i64 0, .int .i64 0, .slice none 0 0, .string ⟨#[101, 110, 100]⟩, .int .i64 1, .int .i64 0, .slice none 0 0] 24)) (HR3.out.below ((Below.refl _ _).alloc (Nat.le_refl _) (.cells #[.string ⟨#[111, 112, 101, 110]⟩, .int .i64 0, .int .i64 0, .slice none 0 0, .string ⟨#[101, 110, 100]⟩, .int .i64 1, .int .i64 0, .slice none 0 0] 24))) (lit_all (w5.alloc (.cells #[.int .i64 0, .int .i64 0] 34)) (w5.heap.size + 1) (World.size_alloc w5 _)) (by decide)).mono ?_; rintro e w6 ⟨rfl, hb6⟩; have HBX := Lib.hid (HB.out.alloc HB.out.size (.cells #[.string ⟨#[111, 112, 101, 110]⟩, .int .i64 0, .int .i64 0, .slice none 0 0, .string ⟨#[101, 110, 100]⟩, .int .i64 1, .int .i64 0, .slice none 0 0] 24)); have KB4 := (KB3.out.alloc (.cells #[.string ⟨#[111, 112, 101, 110]⟩, .int .i64 0, .int .i64 0, .slice none 0 0, .string ⟨#[101, 110, 100]⟩, .int .i64 1, .int .i64 0, .slice none 0 0] 24)).below hb6 (KB3.out.alloc (.cells #[.string ⟨#[111, 112, 101, 110]⟩, .int .i64 0, .int .i64 0, .slice none 0 0, .string ⟨#[101, 110, 100]⟩, .int .i64 1, .int .i64 0, .slice none 0 0] 24)).lt; have KC4 := (KC3.out.alloc (.cells #[.string ⟨#[111, 112, 101, 110]⟩, .int .i64 0, .int .i64 0, .slice none 0 0, .string ⟨#[101, 110, 100]⟩, .int .i64 1, .int .i64 0, .slice none 0 0] 24)).below hb6 (KC3.out.alloc (.cells #[.string ⟨#[111, 112, 101, 110]⟩, .int .i64 0, .int .i64 0, .slice none 0 0, .string ⟨#[101, 110, 100]⟩, .int .i64 1, .int .i64 0, .slice none 0 0] 24)).lt; have b0 := KB4.cell 0; have b1 := KB4.cell 1; have c0 := KC4.cell 0; have c1 := KC4.cell 1; have HB' := Lib.hid (HBX.out.trans (hb6.mono HBX.out.size)); clear HB HBX hb6 KB4 KC4; have HB := HB'; clear HB')
    | (go_at_call 9; refine (CA.out _ HB.out).mono ?_; rintro e w7 ⟨rfl, hb7⟩; have HB' := Lib.hid (HB.out.trans (hb7.mono HB.out.size)); clear HB hb7; have HB := HB'; clear HB'))
  go_ret
  exact ⟨rfl, HB.out⟩
end Go.Proofs.YthcbidbhkikhmaaDoor
