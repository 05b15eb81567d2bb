/- OpA29 -/
import Derived.Test.YtklelheejopfmaaGreatK43
import Derived.Test.YtklelheejopfmaaGreatK42
namespace Go.Proofs.YtklelheejopfmaaGreat
open Go Go.ChangeShapes Go.WideShapes Go.ChangeAt Go.RowKit Go.Joins
theorem list_of {α : Type} (P : Nat → α → Prop) : ∀ n : Nat, (∀ i, i < n → ∃ o, P i o) → ∃ os : List α, os.length = n ∧ ∀ i o, os[i]? = some o → P i o
  | 0, _ => ⟨[], rfl, fun i o h => by simp at h⟩
  | n + 1, h => by
    obtain ⟨os, hl, ho⟩ := list_of P n (fun i hi => h i (by omega))
    obtain ⟨x, hx⟩ := h n (by omega)
    refine ⟨os ++ [x], by simp [hl], fun i o hi => ?_⟩
    by_cases hin : i < os.length
    · rw [List.getElem?_append_left hin] at hi
      exact ho i o hi
    · rw [List.getElem?_append_right (by omega)] at hi
      have hi0 : i - os.length = 0 := by
        have := (List.getElem?_eq_some_iff.1 hi).1
        simp at this; omega
      rw [hi0] at hi
      have hxo : x = o := by simpa using hi
      subst hxo
      have : i = n := by omega
      subst this
      exact hx
section
variable {H : Type} {enc : TypeId × Value → H}
theorem act_of_trod {W : World} {fuel : Nat} {cs : List Value} {y : DataW H × List MemPlace} (hf : DataW.trod enc Tryz.prog W 0 (fun _ => true) true fuel 37 cs = some y) :
    ∃ o : ActZ, cs = [.int .i64 o.kd, .int .i64 o.id, .int .i64 o.n, .int .i64 o.a, .int .i64 o.b, .int .i64 o.c, .int .i64 o.d, .int .i64 o.e, .int .i64 o.f, .int .i64 o.g] ∧ (Lit.int .i64 o.id).wf = true := by
  obtain ⟨y0, y1, y2, y3, m, _, hlen, h0, h1, h2, h3⟩ := trod_struct4 Tryz.underlying37 hf
  rw [show (Tryz.prog).cellsOf 37 = 10 by kernel_rfl] at hlen
  obtain ⟨c0, c1, c2, c3, c4, c5, c6, c7, c8, c9, hcs⟩ := list10 hlen
  rw [hcs] at h0 h1 h2 h3
  have e1 : (Tryz.prog).cellsOf 3 = 1 := by kernel_rfl
  have e2 : (Tryz.prog).cellsOf 35 = 7 := by kernel_rfl
  simp only [e1, e2, List.drop_zero, List.drop_succ_cons, List.take_succ_cons, List.take_zero] at h0 h1 h2 h3
  obtain ⟨k, q0, _⟩ := DataW.trod_int Tryz.underlying3 h0
  obtain ⟨id, q1, _, hw⟩ := DataW.trod_int Tryz.underlying3 h1
  obtain ⟨n, q2, _⟩ := DataW.trod_int Tryz.underlying3 h2
  obtain ⟨a, b, c, d, e, f, g, q3⟩ := status_of_trod h3
  simp only [List.cons.injEq, and_true] at q0 q1 q2 q3
  obtain ⟨r0, r1, r2, r3, r4, r5, r6⟩ := q3
  exact ⟨⟨k, id, n, a, b, c, d, e, f, g⟩, by rw [hcs, q0, q1, q2, r0, r1, r2, r3, r4, r5, r6], hw⟩
set_option maxRecDepth 100000 in
theorem open_acts {W : World} {r : Reach} {b0 : Nat} {v : Value} {d : DataW H} {ps : List MemPlace} (hval : Value.okWide Tryz.prog W r b0 24 v) (h : DataW.Trod enc Tryz.prog W 0 (fun _ => true) true 24 v d ps) :
    ∃ (A : Option Addr) (n c : Nat) (os : List ActZ), v = .slice A n c ∧ os.length = n ∧ RowA W.heap.size W A os := by
  obtain ⟨a0, len, cap, rfl⟩ := okWide_slice (P := Tryz.prog) (t := 24) Tryz.underlying24 hval
  obtain ⟨fuel, hf⟩ := h
  rcases DataW.trod_slice (P := Tryz.prog) (t := 24) Tryz.underlying24 hf with ⟨hcs, _⟩ | ⟨a, len', cap', elems, rest, m, _, hcs, _, _, hlc, hcm, hlen, hel, _, _⟩
  · have e : Value.slice a0 len cap = .slice none 0 0 := by simpa [Value.cells] using hcs
    cases e
    exact ⟨none, 0, 0, [], rfl, rfl, fun i o h => by simp at h⟩
  · have e : Value.slice a0 len cap = .slice (some a) len' cap' := by simpa [Value.cells] using hcs
    cases e
    have h4 : (Tryz.prog).cellsOf 37 = 10 := by kernel_rfl
    rw [h4] at hel
    obtain ⟨os, hl, ho⟩ := list_of (fun i (o : ActZ) => a.block < W.heap.size ∧ (Lit.int .i64 o.id).wf = true ∧
      W.cell? (a.add (i * 10 + 0)) = some (.int .i64 o.kd) ∧
      W.cell? (a.add (i * 10 + 1)) = some (.int .i64 o.id) ∧
      W.cell? (a.add (i * 10 + 2)) = some (.int .i64 o.n) ∧
      W.cell? (a.add (i * 10 + 3)) = some (.int .i64 o.a) ∧
      W.cell? (a.add (i * 10 + 4)) = some (.int .i64 o.b) ∧
      W.cell? (a.add (i * 10 + 5)) = some (.int .i64 o.c) ∧
      W.cell? (a.add (i * 10 + 6)) = some (.int .i64 o.d) ∧
      W.cell? (a.add (i * 10 + 7)) = some (.int .i64 o.e) ∧
      W.cell? (a.add (i * 10 + 8)) = some (.int .i64 o.f) ∧
      W.cell? (a.add (i * 10 + 9)) = some (.int .i64 o.g)) len (fun i hi => by
        have hi2 := hel i hi
        rw [List.getElem?_eq_getElem (by omega), Option.bind_eq_some_iff] at hi2
        obtain ⟨cs, hcs2, hy⟩ := hi2
        obtain ⟨o, rfl, hw⟩ := act_of_trod hy
        have hc := (World.cells?_some hcs2).2.2
        have q0 := hc 0 (by simp); have q1 := hc 1 (by simp); have q2 := hc 2 (by simp); have q3 := hc 3 (by simp); have q4 := hc 4 (by simp); have q5 := hc 5 (by simp); have q6 := hc 6 (by simp); have q7 := hc 7 (by simp); have q8 := hc 8 (by simp); have q9 := hc 9 (by simp)
        rw [addr_add_add] at q0 q1 q2 q3 q4 q5 q6 q7 q8 q9
        have hlt := World.block_lt_of_cell? W _ q0
        rw [addr_add_block] at hlt
        exact ⟨o, hlt, hw, q0, q1, q2, q3, q4, q5, q6, q7, q8, q9⟩)
    exact ⟨some a, len, cap, os, rfl, hl, fun i o hio => ⟨a, rfl, ho i o hio⟩⟩
end
end Go.Proofs.YtklelheejopfmaaGreat
