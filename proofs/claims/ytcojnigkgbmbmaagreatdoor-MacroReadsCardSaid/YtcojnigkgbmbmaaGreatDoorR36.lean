/- Open19 -/
import Derived.Test.YtcojnigkgbmbmaaGreatDoorR06
import Derived.Test.YtcojnigkgbmbmaaGreatDoorR18
import Derived.Lib.SmallJoins
namespace Go.Proofs.YtcojnigkgbmbmaaGreatDoor
open Go Go.ChangeShapes Go.WideShapes Go.ChangeAt Go.RowKit Go.Joins
section
variable {H : Type} {enc : TypeId × Value → H}
theorem list4 {α : Type} {l : List α} (h : l.length = 4) : ∃ a b c d, l = [a, b, c, d] := by
  match l, h with
  | [a, b, c, d], _ => exact ⟨a, b, c, d, rfl⟩
set_option maxRecDepth 100000 in
theorem open_last {W : World} {r : Reach} {b0 : Nat} {v : Value} {d : DataW H} {ps : List MemPlace} (hval : Value.okWide Tryz.prog W r b0 24 v) (h : DataW.Trod enc Tryz.prog W 0 (fun _ => true) true 24 v d ps) : ∃ x : LastM, v = lastV x := by
  obtain ⟨cs, rfl, hsz⟩ := okWide_struct (P := Tryz.prog) (t := 24) Tryz.underlying24 hval
  obtain ⟨fuel, hf⟩ := h
  obtain ⟨y0, y1, y2, y3, m, hx, hlen, h0, h1, h2, h3⟩ := trod_struct4 Tryz.underlying24 hf
  rw [show (Tryz.prog).cellsOf 24 = 4 by kernel_rfl] at hlen
  obtain ⟨c0, c1, c2, c3, hcs⟩ := list4 hlen
  rw [hcs] at h0 h1 h2 h3
  have e1 : (Tryz.prog).cellsOf 3 = 1 := by kernel_rfl
  have e2 : (Tryz.prog).cellsOf 4 = 1 := by kernel_rfl
  simp only [e1, e2, List.drop_zero, List.drop_succ_cons, List.take_succ_cons, List.take_zero] at h0 h1 h2 h3
  obtain ⟨a, q0, _⟩ := DataW.trod_int Tryz.underlying3 h0
  obtain ⟨b, q1, _⟩ := DataW.trod_bool Tryz.underlying4 h1
  obtain ⟨e, q2, _⟩ := DataW.trod_int Tryz.underlying3 h2
  obtain ⟨f, q3, _⟩ := DataW.trod_int Tryz.underlying3 h3
  simp only [List.cons.injEq, and_true] at q0 q1 q2 q3
  refine ⟨⟨a, b, e, f⟩, ?_⟩
  rw [q0, q1, q2, q3] at hcs
  unfold lastV
  congr 1
  exact Array.toList_inj.1 hcs
end
end Go.Proofs.YtcojnigkgbmbmaaGreatDoor
