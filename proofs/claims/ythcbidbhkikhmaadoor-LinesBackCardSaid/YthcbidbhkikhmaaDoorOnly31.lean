/- LinesOnly: the walk. -/
import Derived.Test.YthcbidbhkikhmaaDoorBack31
namespace Go.Proofs.YthcbidbhkikhmaaDoor
open Go Go.RowKit
theorem go_err (line : List UInt8) : ∀ (t : List UInt8) (k : Nat) (o : OpN) (a b : Nat), k ≤ line.length → goR line t k o = .error (a, b) → a = 14 ∧ b ≤ line.length
  | [], k, o, a, b, hk, h => by
    unfold goR at h
    split at h
    · injection h with h; injection h with h1 h2; omega
    · cases h
  | c :: t, k, o, a, b, hk, h => by
    unfold goR at h
    split at h
    · injection h with h; injection h with h1 h2; omega
    · rename_i hne
      split at h
      · injection h with h; injection h with h1 h2; omega
      · refine go_err line t _ _ a b ?_ h
        have := partR_le (line.drop (k + 1))
        rw [List.length_drop] at this
        unfold endR; omega
theorem ref_err {line : List UInt8} {a b : Nat} (h : refP line = .error (a, b)) (hl : line.length ≤ 3000) : a = 14 ∧ b ≤ line.length := by
  unfold refP at h
  rw [if_neg (by omega)] at h
  split at h
  · injection h with h; injection h with h1 h2; omega
  · exact go_err line _ _ _ a b (partR_le line) h
set_option maxRecDepth 100000 in
set_option maxHeartbeats 8000000 in
theorem law_LinesOnly (s : List UInt8) (w : World) (hT : Tb w) :
    Calls Tryd.prog 7 #[.string (bs s)] w fun e w' => e = .returned (.bool true) ∧ Below w.heap.size w w' := by
  have HT := Lib.hid hT
  have CK := Lib.hid (law_known w hT)
  clear hT
  by_cases h1 : 2100 < s.length
  · go_enter Tryd.func7, Tryd.ntmps7
    go_wp2_with (go_at_call 5; refine CK.out.mono ?_; rintro e w1 ⟨rfl, hb1⟩)
    go_ret
    exact ⟨rfl, hb1⟩
  have hsz : s.length ≤ 10000 := by omega
  have C1 : Hid (∀ W, Calls Tryd.prog 16 #[.string (bs s)] W (ParsePost (refP s) W)) := Lib.hid (fun W => lines_parse_ref s W hsz)
  cases hr : refP s with
  | error ab =>
    obtain ⟨a, b⟩ := ab
    obtain ⟨rfl, hb⟩ := ref_err hr (by omega)
    rw [hr] at C1
    clear hr
    go_enter Tryd.func7, Tryd.ntmps7
    go_wp2_with (first
      | (go_at_call 5; refine CK.out.mono ?_; rintro e w1 ⟨rfl, hb1⟩; have HB1 := Lib.hid hb1; clear hb1)
      | (go_at_call 16; refine (C1.out _).mono ?_; intro e w2 hp; obtain ⟨A, c, rfl, hb2⟩ := hp.of_err; have HB2 := Lib.hid (((HB1.out.trans (hb2.mono HB1.out.size)).alloc (Nat.le_trans HB1.out.size hb2.size) (.cells #[.string ⟨#[]⟩, .int .i64 0, .int .i64 0, .slice A 0 c] 24)).alloc (by have := Nat.le_trans HB1.out.size hb2.size; rw [World.size_alloc]; omega) (.cells #[.int .i64 14, .int .i64 (b : Int)] 34)); clear hp C1 hb2)
      | (go_at_call 20; have CS := same_op [] 0 0 A c [] [] 0 0 none 0 [] ((w2.alloc (.cells #[.string ⟨#[]⟩, .int .i64 0, .int .i64 0, .slice A 0 c] 24)).alloc (.cells #[.int .i64 14, .int .i64 (b : Int)] 34)) (Sl.nil _ _) (Sl.nil _ _); refine CS.mono ?_; rintro e w3 ⟨rfl, hb3⟩; have HB3 := Lib.hid (HB2.out.trans (hb3.mono HB2.out.size)); clear hb3))
    go_ret
    exact ⟨by simp [sameR], HB3.out⟩
  | ok o =>
    rw [hr] at C1
    obtain ⟨hok, hl⟩ := only_back hr
    have CC : Hid (∀ A c W, Calls Tryd.prog 13 #[.agg #[.string (bs o.w), .int .i64 (o.id : Int), .int .i64 (o.n : Int), .slice A o.b.length c]] W fun e w' => e = .returned (.int .i64 0) ∧ Below W.heap.size W w') := Lib.hid (fun A c W => by
      have := lines_check o.w (o.id : Int) (o.n : Int) A o.b.length c W
      rw [hok] at this
      exact this)
    have CW : Hid (∀ A c W, Below w.heap.size w W → Sl W A (o.b.map byteV) → Calls Tryd.prog 23 #[.agg #[.string (bs o.w), .int .i64 (o.id : Int), .int .i64 (o.n : Int), .slice A o.b.length c], .string (bs s), .int .i64 0] W fun e w' => e = .returned (.bool true) ∧ Below W.heap.size W w') := Lib.hid (fun A c W hb hS => by
      have := law_writes o.w (o.id : Int) (o.n : Int) A o.b.length c o.b s 0 W (HT.out.below hb) hS rfl
      rw [hl] at this
      simpa using this)
    clear hr hok hl
    go_enter Tryd.func7, Tryd.ntmps7
    go_wp2_with (first
      | (go_at_call 5; refine CK.out.mono ?_; rintro e w1 ⟨rfl, hb1⟩; have HB1 := Lib.hid hb1; clear hb1)
      | (go_at_call 16; refine (C1.out _).mono ?_; intro e w2 hp; obtain ⟨A, c, rfl, ho, hb2⟩ := hp.of_ok; have HB2 := Lib.hid (((HB1.out.trans (hb2.mono HB1.out.size)).alloc (Nat.le_trans HB1.out.size hb2.size) (.cells #[.string (bs o.w), .int .i64 (o.id : Int), .int .i64 (o.n : Int), .slice A o.b.length c] 24)).alloc (by have := Nat.le_trans HB1.out.size hb2.size; rw [World.size_alloc]; omega) (.cells #[.int .i64 0, .int .i64 0] 34)); have HO := Lib.hid ((own_sl' ho).alloc (.cells #[.string (bs o.w), .int .i64 (o.id : Int), .int .i64 (o.n : Int), .slice A o.b.length c] 24) |>.alloc (.cells #[.int .i64 0, .int .i64 0] 34)); have HX := Lib.hid ((Blk.new w2 24 #[.string (bs o.w), .int .i64 (o.id : Int), .int .i64 (o.n : Int), .slice A o.b.length c]).alloc (.cells #[.int .i64 0, .int .i64 0] 34)); clear hp C1 hb2 ho)
      | (go_at_call 13; refine (CC.out A c _).mono ?_; rintro e w3 ⟨rfl, hb3⟩; have HB3 := Lib.hid (HB2.out.trans (hb3.mono HB2.out.size)); have HO3 := Lib.hid (HO.out.below hb3); have HX3 := HX.out.below hb3 HX.out.lt; have x0 := HX3.cell 0; have x1 := HX3.cell 1; have x2 := HX3.cell 2; have x3 := HX3.cell 3; clear hb3 HX3)
      | (go_at_call 23; refine (CW.out A c _ HB3.out HO3.out).mono ?_; rintro e w4 ⟨rfl, hb4⟩; have HB4 := Lib.hid (HB3.out.trans (hb4.mono HB3.out.size)); clear hb4))
    go_ret
    exact ⟨rfl, HB4.out⟩
end Go.Proofs.YthcbidbhkikhmaaDoor
