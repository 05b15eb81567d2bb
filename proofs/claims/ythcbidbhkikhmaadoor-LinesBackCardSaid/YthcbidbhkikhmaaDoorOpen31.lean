/- Opening arguments: an operation, a row of operations, a string. -/
import Derived.Test.YthcbidbhkikhmaaDoorFinal
import Derived.Lib.SmallJoins
namespace Go.Proofs.YthcbidbhkikhmaaDoor
open Go Go.ChangeShapes Go.WideShapes Go.ChangeAt Go.RowKit Go.Joins
section
variable {H : Type} {enc : TypeId × Value → H} {P : Program}
theorem bytes_of_trod {W : World} {t e : TypeId} {fuel : Nat} {cs : List Value} {y : DataW H × List MemPlace} (ht : P.underlying t = some (.slice e)) (he : P.underlying e = some (.int .u8)) (hc : P.cellsOf e = 1)
    (hf : DataW.trod enc P W 0 (fun _ => true) true fuel t cs = some y) : ∃ (A : Option Addr) (n c : Nat) (l : List UInt8), cs = [.slice A n c] ∧ Sl W A (l.map byteV) ∧ l.length = n ∧ n ≤ maxLen := by
  rcases open_ints ht he hc hf with ⟨hcs, hx⟩ | ⟨a, len, cap, zs, hcs, _, hl, hm, hz, hx, hcell, hwz⟩
  · exact ⟨none, 0, 0, [], hcs, Sl.nil _ _, rfl, Nat.zero_le _⟩
  · refine ⟨some a, len, cap, (zs.take len).map fun z => UInt8.ofNat z.toNat, hcs, ?_, ?_, by omega⟩
    · intro k u hk
      rw [List.getElem?_map, List.getElem?_map, Option.map_map] at hk
      obtain ⟨z, hz1, hz2⟩ := Option.map_eq_some_iff.1 hk
      rw [List.getElem?_take] at hz1
      split at hz1
      · have hkl : k < zs.length := (List.getElem?_eq_some_iff.1 hz1).1
        have hc1 := hcell k hkl
        have hzk : zs.getD k 0 = z := by simp [List.getD, hz1]
        rw [hzk] at hc1
        have hlt := World.block_lt_of_cell? W _ hc1
        rw [addr_add_block] at hlt
        refine ⟨a, rfl, hlt, ?_⟩
        rw [hc1, ← hz2]
        have hw := hwz z (List.mem_of_getElem? hz1)
        have hb : 0 ≤ z ∧ z < 256 := by
          simp [Lit.wf, IntKind.min, IntKind.max, IntKind.bits, IntKind.signed] at hw
          omega
        simp [byteV, Function.comp]
        omega
      · cases hz1
    · rw [List.length_map, List.length_take]
      have : len ≤ zs.length := by rw [hz]; split <;> omega
      omega

theorem toList_bs (s : ByteArray) : bs s.data.toList = s := by cases s; simp [bs]
theorem size_list {s : ByteArray} {m : Nat} (h : s.size ≤ m) : s.data.toList.length ≤ m := by rw [Array.length_toList]; exact h
theorem list4 {α : Type} {l : List α} (h : l.length = 4) : ∃ a b c d, l = [a, b, c, d] := by
  match l, h with
  | [a, b, c, d], _ => exact ⟨a, b, c, d, rfl⟩
theorem open_str {W : World} {r : Reach} {b0 : Nat} {t : TypeId} {v : Value} {d : DataW H} {ps : List MemPlace} (ht : P.underlying t = some .string) (hval : Value.okWide P W r b0 t v) (h : DataW.Trod enc P W 0 (fun _ => true) true t v d ps) :
    ∃ s : List UInt8, v = .string (bs s) ∧ s.length ≤ maxLen := by
  obtain ⟨s, rfl, _, _, hs⟩ := Go.ChangeMaps.open_string ht hval h
  exact ⟨s.data.toList, by rw [toList_bs], size_list hs⟩
end
section
variable {H : Type} {enc : TypeId × Value → H}
/-- four cells that read as an operation -/
theorem op_of_trod {W : World} {fuel : Nat} {cs : List Value} {y : DataW H × List MemPlace} (hf : DataW.trod enc Tryd.prog W 0 (fun _ => true) true fuel 24 cs = some y) :
    ∃ (s : List UInt8) (id n : Int) (A : Option Addr) (k c : Nat) (l : List UInt8), cs = [.string (bs s), .int .i64 id, .int .i64 n, .slice A k c] ∧ Sl W A (l.map byteV) ∧ l.length = k ∧ k ≤ maxLen ∧ s.length ≤ maxLen ∧
      (-9223372036854775808 ≤ id ∧ id ≤ 9223372036854775807) ∧ (-9223372036854775808 ≤ n ∧ n ≤ 9223372036854775807) := by
  obtain ⟨y0, y1, y2, y3, m, hx, hlen, h0, h1, h2, h3⟩ := trod_struct4 Tryd.underlying24 hf
  rw [show (Tryd.prog).cellsOf 24 = 4 by kernel_rfl] at hlen
  obtain ⟨c0, c1, c2, c3, rfl⟩ := list4 hlen
  have e1 : (Tryd.prog).cellsOf 9 = 1 := by kernel_rfl
  have e2 : (Tryd.prog).cellsOf 3 = 1 := by kernel_rfl
  have e3 : (Tryd.prog).cellsOf 22 = 1 := by kernel_rfl
  simp only [e1, e2, e3, List.drop_zero, List.drop_succ_cons, List.take_succ_cons, List.take_zero] at h0 h1 h2 h3
  obtain ⟨s, q0, _, hs⟩ := DataW.trod_string Tryd.underlying9 h0
  obtain ⟨id, q1, _, hw1⟩ := DataW.trod_int Tryd.underlying3 h1
  obtain ⟨n, q2, _, hw2⟩ := DataW.trod_int Tryd.underlying3 h2
  obtain ⟨A, k, c, l, q3, hS, hl, hk⟩ := bytes_of_trod Tryd.underlying22 Tryd.underlying5 (by kernel_rfl) h3
  refine ⟨s.data.toList, id, n, A, k, c, l, ?_, hS, hl, hk, size_list hs, int_wf hw1, int_wf hw2⟩
  simp only [List.cons.injEq, and_true] at q0 q1 q2 q3
  rw [q0, q1, q2, q3, toList_bs]
set_option maxRecDepth 100000 in
theorem open_op {W : World} {r : Reach} {b0 : Nat} {v : Value} {d : DataW H} {ps : List MemPlace} (hval : Value.okWide Tryd.prog W r b0 24 v) (h : DataW.Trod enc Tryd.prog W 0 (fun _ => true) true 24 v d ps) :
    ∃ (s : List UInt8) (id n : Int) (A : Option Addr) (k c : Nat) (l : List UInt8), v = .agg #[.string (bs s), .int .i64 id, .int .i64 n, .slice A k c] ∧ Sl W A (l.map byteV) ∧ l.length = k ∧ k ≤ maxLen ∧ s.length ≤ maxLen ∧
      (-9223372036854775808 ≤ id ∧ id ≤ 9223372036854775807) ∧ (-9223372036854775808 ≤ n ∧ n ≤ 9223372036854775807) := by
  obtain ⟨cs, rfl, hsz⟩ := okWide_struct (P := Tryd.prog) (t := 24) Tryd.underlying24 hval
  obtain ⟨fuel, hf⟩ := h
  obtain ⟨s, id, n, A, k, c, l, e, h⟩ := op_of_trod hf
  refine ⟨s, id, n, A, k, c, l, ?_, h⟩
  congr 1
  exact Array.toList_inj.1 e
end
end Go.Proofs.YthcbidbhkikhmaaDoor
