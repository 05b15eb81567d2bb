/- Open29 -/
import Derived.Test.YtklelheejopfmaaGreatK02
import Derived.Lib.SmallJoins
namespace Go.Proofs.YtklelheejopfmaaGreat
open Go Go.ChangeShapes Go.WideShapes Go.ChangeAt Go.RowKit Go.Joins
section
variable {H : Type}
theorem trod_st5 {P : Program} {enc : TypeId × Value → H} {w : World} {base : Nat} {spare : Nat → Bool} {held : Bool} {t : TypeId} {f0 f1 f2 f3 f4 : Field} {fuel : Nat} {cs : List Value} {x : DataW H × List MemPlace} (ht : P.underlying t = some (.struct #[f0, f1, f2, f3, f4])) (h : DataW.trod enc P w base spare held fuel t cs = some x) :
    ∃ y0 y1 y2 y3 y4 m, cs.length = P.cellsOf t ∧ DataW.trod enc P w base spare held m f0.type ((cs.drop f0.offset).take (P.cellsOf f0.type)) = some y0 ∧ DataW.trod enc P w base spare held m f1.type ((cs.drop f1.offset).take (P.cellsOf f1.type)) = some y1 ∧ DataW.trod enc P w base spare held m f2.type ((cs.drop f2.offset).take (P.cellsOf f2.type)) = some y2 ∧ DataW.trod enc P w base spare held m f3.type ((cs.drop f3.offset).take (P.cellsOf f3.type)) = some y3 ∧ DataW.trod enc P w base spare held m f4.type ((cs.drop f4.offset).take (P.cellsOf f4.type)) = some y4 := by
  obtain ⟨xs, n, _, rfl, hl, hlen, hf⟩ := DataW.trod_struct ht h
  match xs, hlen with
  | [y0, y1, y2, y3, y4], _ => exact ⟨y0, y1, y2, y3, y4, n, hl, by simpa using hf 0 f0 rfl, by simpa using hf 1 f1 rfl, by simpa using hf 2 f2 rfl, by simpa using hf 3 f3 rfl, by simpa using hf 4 f4 rfl⟩
theorem list5 {α : Type} {l : List α} (h : l.length = 5) : ∃ y0 y1 y2 y3 y4, l = [y0, y1, y2, y3, y4] := by
  match l, h with
  | [y0, y1, y2, y3, y4], _ => exact ⟨y0, y1, y2, y3, y4, rfl⟩
theorem trod_st7 {P : Program} {enc : TypeId × Value → H} {w : World} {base : Nat} {spare : Nat → Bool} {held : Bool} {t : TypeId} {f0 f1 f2 f3 f4 f5 f6 : Field} {fuel : Nat} {cs : List Value} {x : DataW H × List MemPlace} (ht : P.underlying t = some (.struct #[f0, f1, f2, f3, f4, f5, f6])) (h : DataW.trod enc P w base spare held fuel t cs = some x) :
    ∃ y0 y1 y2 y3 y4 y5 y6 m, cs.length = P.cellsOf t ∧ DataW.trod enc P w base spare held m f0.type ((cs.drop f0.offset).take (P.cellsOf f0.type)) = some y0 ∧ DataW.trod enc P w base spare held m f1.type ((cs.drop f1.offset).take (P.cellsOf f1.type)) = some y1 ∧ DataW.trod enc P w base spare held m f2.type ((cs.drop f2.offset).take (P.cellsOf f2.type)) = some y2 ∧ DataW.trod enc P w base spare held m f3.type ((cs.drop f3.offset).take (P.cellsOf f3.type)) = some y3 ∧ DataW.trod enc P w base spare held m f4.type ((cs.drop f4.offset).take (P.cellsOf f4.type)) = some y4 ∧ DataW.trod enc P w base spare held m f5.type ((cs.drop f5.offset).take (P.cellsOf f5.type)) = some y5 ∧ DataW.trod enc P w base spare held m f6.type ((cs.drop f6.offset).take (P.cellsOf f6.type)) = some y6 := by
  obtain ⟨xs, n, _, rfl, hl, hlen, hf⟩ := DataW.trod_struct ht h
  match xs, hlen with
  | [y0, y1, y2, y3, y4, y5, y6], _ => exact ⟨y0, y1, y2, y3, y4, y5, y6, n, hl, by simpa using hf 0 f0 rfl, by simpa using hf 1 f1 rfl, by simpa using hf 2 f2 rfl, by simpa using hf 3 f3 rfl, by simpa using hf 4 f4 rfl, by simpa using hf 5 f5 rfl, by simpa using hf 6 f6 rfl⟩
theorem list7 {α : Type} {l : List α} (h : l.length = 7) : ∃ y0 y1 y2 y3 y4 y5 y6, l = [y0, y1, y2, y3, y4, y5, y6] := by
  match l, h with
  | [y0, y1, y2, y3, y4, y5, y6], _ => exact ⟨y0, y1, y2, y3, y4, y5, y6, rfl⟩
theorem list10 {α : Type} {l : List α} (h : l.length = 10) : ∃ a b c d e f g h i j, l = [a, b, c, d, e, f, g, h, i, j] := by
  match l, h with
  | [a, b, c, d, e, f, g, h, i, j], _ => exact ⟨a, b, c, d, e, f, g, h, i, j, rfl⟩
variable {enc : TypeId × Value → H}
theorem status_of_trod {W : World} {fuel : Nat} {cs : List Value} {y : DataW H × List MemPlace} (hf : DataW.trod enc Tryz.prog W 0 (fun _ => true) true fuel 35 cs = some y) :
    ∃ a b c d e f g : Int, cs = [.int .i64 a, .int .i64 b, .int .i64 c, .int .i64 d, .int .i64 e, .int .i64 f, .int .i64 g] := by
  obtain ⟨y0, y1, y2, y3, y4, y5, y6, m, hlen, h0, h1, h2, h3, h4, h5, h6⟩ := trod_st7 Tryz.underlying35 hf
  rw [show (Tryz.prog).cellsOf 35 = 7 by kernel_rfl] at hlen
  obtain ⟨c0, c1, c2, c3, c4, c5, c6, rfl⟩ := list7 hlen
  have e1 : (Tryz.prog).cellsOf 3 = 1 := by kernel_rfl
  have e2 : (Tryz.prog).cellsOf 26 = 1 := by kernel_rfl
  simp only [e1, e2, List.drop_zero, List.drop_succ_cons, List.take_succ_cons, List.take_zero] at h0 h1 h2 h3 h4 h5 h6
  obtain ⟨a, q0, _⟩ := DataW.trod_int Tryz.underlying26 h0
  obtain ⟨b, q1, _⟩ := DataW.trod_int Tryz.underlying3 h1
  obtain ⟨c, q2, _⟩ := DataW.trod_int Tryz.underlying3 h2
  obtain ⟨d, q3, _⟩ := DataW.trod_int Tryz.underlying3 h3
  obtain ⟨e, q4, _⟩ := DataW.trod_int Tryz.underlying3 h4
  obtain ⟨f, q5, _⟩ := DataW.trod_int Tryz.underlying3 h5
  obtain ⟨g, q6, _⟩ := DataW.trod_int Tryz.underlying3 h6
  simp only [List.cons.injEq, and_true] at q0 q1 q2 q3 q4 q5 q6
  exact ⟨a, b, c, d, e, f, g, by rw [q0, q1, q2, q3, q4, q5, q6]⟩
set_option maxRecDepth 100000 in
theorem open_cfg {W : World} {r : Reach} {b0 : Nat} {v : Value} {dd : DataW H} {ps : List MemPlace} (hval : Value.okWide Tryz.prog W r b0 23 v) (h : DataW.Trod enc Tryz.prog W 0 (fun _ => true) true 23 v dd ps) :
    ∃ a b c d e : Int, v = .agg #[.int .i64 a, .int .i64 b, .int .i64 c, .int .i64 d, .int .i64 e] := by
  obtain ⟨cs, rfl, hsz⟩ := okWide_struct (P := Tryz.prog) (t := 23) Tryz.underlying23 hval
  obtain ⟨fuel, hf⟩ := h
  obtain ⟨y0, y1, y2, y3, y4, m, hlen, h0, h1, h2, h3, h4⟩ := trod_st5 Tryz.underlying23 hf
  rw [show (Tryz.prog).cellsOf 23 = 5 by kernel_rfl] at hlen
  obtain ⟨c0, c1, c2, c3, c4, hcs⟩ := list5 hlen
  rw [hcs] at h0 h1 h2 h3 h4
  have e1 : (Tryz.prog).cellsOf 3 = 1 := by kernel_rfl
  simp only [e1, List.drop_zero, List.drop_succ_cons, List.take_succ_cons, List.take_zero] at h0 h1 h2 h3 h4
  obtain ⟨a, q0, _⟩ := DataW.trod_int Tryz.underlying3 h0
  obtain ⟨b, q1, _⟩ := DataW.trod_int Tryz.underlying3 h1
  obtain ⟨c, q2, _⟩ := DataW.trod_int Tryz.underlying3 h2
  obtain ⟨d, q3, _⟩ := DataW.trod_int Tryz.underlying3 h3
  obtain ⟨e, q4, _⟩ := DataW.trod_int Tryz.underlying3 h4
  simp only [List.cons.injEq, and_true] at q0 q1 q2 q3 q4
  refine ⟨a, b, c, d, e, ?_⟩
  congr 1
  rw [q0, q1, q2, q3, q4] at hcs
  exact Array.toList_inj.1 hcs
set_option maxRecDepth 100000 in
theorem open_act {W : World} {r : Reach} {b0 : Nat} {v : Value} {dd : DataW H} {ps : List MemPlace} (hval : Value.okWide Tryz.prog W r b0 37 v) (h : DataW.Trod enc Tryz.prog W 0 (fun _ => true) true 37 v dd ps) :
    ∃ k id n a b c d e f g : Int, v = .agg #[.int .i64 k, .int .i64 id, .int .i64 n, .int .i64 a, .int .i64 b, .int .i64 c, .int .i64 d, .int .i64 e, .int .i64 f, .int .i64 g] := by
  obtain ⟨cs, rfl, hsz⟩ := okWide_struct (P := Tryz.prog) (t := 37) Tryz.underlying37 hval
  obtain ⟨fuel, hf⟩ := h
  obtain ⟨y0, y1, y2, y3, m, _, hlen, h0, h1, h2, h3⟩ := trod_struct4 Tryz.underlying37 hf
  rw [show (Tryz.prog).cellsOf 37 = 10 by kernel_rfl] at hlen
  obtain ⟨c0, c1, c2, c3, c4, c5, c6, c7, c8, c9, hcs⟩ := list10 hlen
  rw [hcs] at h0 h1 h2 h3
  have e1 : (Tryz.prog).cellsOf 3 = 1 := by kernel_rfl
  have e2 : (Tryz.prog).cellsOf 35 = 7 := by kernel_rfl
  simp only [e1, e2, List.drop_zero, List.drop_succ_cons, List.take_succ_cons, List.take_zero] at h0 h1 h2 h3
  obtain ⟨k, q0, _⟩ := DataW.trod_int Tryz.underlying3 h0
  obtain ⟨id, q1, _⟩ := DataW.trod_int Tryz.underlying3 h1
  obtain ⟨n, q2, _⟩ := DataW.trod_int Tryz.underlying3 h2
  obtain ⟨a, b, c, d, e, f, g, q3⟩ := status_of_trod h3
  simp only [List.cons.injEq, and_true] at q0 q1 q2 q3
  obtain ⟨r0, r1, r2, r3, r4, r5, r6⟩ := q3
  refine ⟨k, id, n, a, b, c, d, e, f, g, ?_⟩
  congr 1
  rw [q0, q1, q2, r0, r1, r2, r3, r4, r5, r6] at hcs
  exact Array.toList_inj.1 hcs
end
end Go.Proofs.YtklelheejopfmaaGreat
