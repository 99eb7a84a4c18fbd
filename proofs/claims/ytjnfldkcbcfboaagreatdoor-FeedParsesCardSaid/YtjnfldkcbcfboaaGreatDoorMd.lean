/-
  Numbers: Parse of both walked.
-/
import Derived.Test.YtjnfldkcbcfboaaGreatDoorMc
namespace Go.Proofs.YtjnfldkcbcfboaaGreatDoor
open Go.RowKit
open Nat (reduceAdd reduceEqDiff reduceLT reduceLeDiff reduceSub reducePow reduceMul)
open Int (reduceToNat reduceLE reduceEq)
set_option linter.unusedVariables false
set_option linter.unusedSimpArgs false
set_option linter.unnecessarySimpa false


theorem undot_len (s : List UInt8) (p : Nat) : (undot s p).length ≤ s.length := by
  unfold undot
  split
  · rw [List.length_append, List.length_take, List.length_drop]; omega
  · exact Nat.le_refl _
theorem rvL_lt {s : List UInt8} : rvL s < 10 ^ s.length := by
  have key : ∀ (s : List UInt8) (a : Nat), s.foldl rvF a < (a + 1) * 10 ^ s.length := by
    intro s
    induction s with
    | nil => intro a; simp
    | cons c s ih =>
      intro a
      rw [List.foldl_cons, List.length_cons, Nat.pow_succ]
      have h1 := ih (rvF a c)
      have h2 : rvF a c + 1 ≤ (a + 1) * 10 := by unfold rvF; split <;> omega
      have h3 := Nat.mul_le_mul_right (10 ^ s.length) h2
      have e : (a + 1) * 10 * 10 ^ s.length = (a + 1) * (10 ^ s.length * 10) := by rw [Nat.mul_assoc, Nat.mul_comm 10]
      omega
  have := key s 0
  unfold rvL; omega
theorem rvL_succ {s : List UInt8} {k : Nat} (h : k < s.length) : rvL (s.take (k + 1)) = rvF (rvL (s.take k)) s[k] := by
  unfold rvL; rw [List.take_succ_eq_append_getElem h, List.foldl_append]; rfl
theorem dot_take (s : List UInt8) (a : Nat) : (s.take s.length).drop a = s.drop a := by rw [List.take_length]
end Go.Proofs.YtjnfldkcbcfboaaGreatDoor
