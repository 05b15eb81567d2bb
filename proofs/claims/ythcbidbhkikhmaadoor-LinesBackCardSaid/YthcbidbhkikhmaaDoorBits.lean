/- Package bits: Count, bit, Read; the reference's Count, Read. -/
import Derived.Test.YthcbidbhkikhmaaDoorBase
namespace Go.Proofs.YthcbidbhkikhmaaDoor
open Go Go.RowKit
def bitN (l : List UInt8) (k : Nat) : Nat := (l.getD (k / 8) 0).toNat / 2 ^ (7 - k % 8) % 2
theorem bitN_lt (l : List UInt8) (k : Nat) : bitN l k < 2 := Nat.mod_lt _ (by decide)
def numN (l : List UInt8) (k : Nat) : Nat → Nat
  | 0 => 0
  | n + 1 => 2 * numN l k n + bitN l (k + n)
theorem numN_lt (l : List UInt8) (k n : Nat) : numN l k n < 2 ^ n := by
  induction n with
  | zero => simp [numN]
  | succ n ih => have := bitN_lt l (k + n); simp only [numN, Nat.pow_succ]; omega
end Go.Proofs.YthcbidbhkikhmaaDoor
