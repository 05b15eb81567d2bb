/- AddressPuts. -/
import Derived.Test.YtedjplbiibflmaaDoorLaw04
import Derived.Test.YtedjplbiibflmaaDoorRef04
namespace Go.Proofs.YtedjplbiibflmaaDoor
open Go Go.RowKit
set_option maxRecDepth 100000 in
set_option maxHeartbeats 2000000 in
theorem law04_AddressPuts (d a : Int) (w : World) (hT : Tz w) (hd : -9223372036854775808 ≤ d ∧ d ≤ 9223372036854775807) (ha : -9223372036854775808 ≤ a ∧ a ≤ 9223372036854775807) :
    Calls Tryd.prog 5 #[.int .i64 d, .int .i64 a] w fun e w' => e = .returned (.bool true) ∧ Below w.heap.size w w' := by
  have HT := Lib.hid hT; clear hT
  have P1 := Lib.hid (fun W (h : Tz W) => address_Put d W h hd)
  have P2 := Lib.hid (fun W => ref04_Put d W hd)
  have N1 := Lib.hid (fun W => address_Next a d W ha hd)
  have N2 := Lib.hid (fun W => ref04_Next a d W ha hd)
  have R1 := Lib.hid (fun W => address_Row a W ha)
  have R2 := Lib.hid (fun W => ref04_Row a W ha)
  generalize (putR d).1 = x1 at P1 P2
  generalize (putR d).2 = x2 at P1 P2
  generalize (nextR a d).1 = y1 at N1 N2
  generalize (nextR a d).2 = y2 at N1 N2
  generalize (rowR a).1 = z1 at R1 R2
  generalize (rowR a).2.1 = z2 at R1 R2
  generalize (rowR a).2.2 = z3 at R1 R2
  have q1 : (x1 == x1) = true := beq_self_eq_true x1
  have q2 : (x2 == x2) = true := beq_self_eq_true x2
  have q3 : (y1 == y1) = true := beq_self_eq_true y1
  have q4 : (y2 == y2) = true := beq_self_eq_true y2
  have q5 : (z1 == z1) = true := beq_self_eq_true z1
  have q6 : (z2 == z2) = true := beq_self_eq_true z2
  have q7 : (z3 == z3) = true := beq_self_eq_true z3
  go_enter Tryd.func5, Tryd.ntmps5
  go_wp2_with fail
  refine (P1.out _ HT.out).mono ?_
  rintro e w1 ⟨rfl, hb⟩
  have B1 := Lib.hid hb; clear hb
  go_wp2_with fail
  refine (P2.out _).mono ?_
  rintro e w2 ⟨rfl, hb⟩
  have B2 := Lib.hid (B1.out.trans (hb.mono B1.out.size)); clear hb B1
  go_wp2_with (first | (go_at_call 18; refine (N1.out _).mono ?_; rintro e w' ⟨rfl, rfl⟩) | (go_at_call 19; refine (N2.out _).mono ?_; rintro e w' ⟨rfl, rfl⟩) | (go_at_call 20; refine (R1.out _).mono ?_; rintro e w' ⟨rfl, rfl⟩) | (go_at_call 21; refine (R2.out _).mono ?_; rintro e w' ⟨rfl, rfl⟩) | (go_at_call 9; refine (law04_awake _ (HT.out.below B2.out)).mono ?_; rintro e w3 ⟨rfl, hb⟩))
  go_ret
  exact ⟨rfl, B2.out.trans (hb.mono B2.out.size)⟩
end Go.Proofs.YtedjplbiibflmaaDoor
