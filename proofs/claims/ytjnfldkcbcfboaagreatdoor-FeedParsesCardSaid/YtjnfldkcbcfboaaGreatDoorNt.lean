/-
  A remainder.
-/
import Derived.Test.YtjnfldkcbcfboaaGreatDoorSh
namespace Go.Proofs.YtjnfldkcbcfboaaGreatDoor
theorem remN (a b : Nat) : (a : Int).tmod (b : Int) = ((a % b : Nat) : Int) := by
  rw [Int.tmod_eq_emod_of_nonneg (Int.natCast_nonneg _), Int.natCast_emod]
theorem meas_lt {n k : Nat} (h : k < n) : n - (k + 1) < n - k := by omega
end Go.Proofs.YtjnfldkcbcfboaaGreatDoor
