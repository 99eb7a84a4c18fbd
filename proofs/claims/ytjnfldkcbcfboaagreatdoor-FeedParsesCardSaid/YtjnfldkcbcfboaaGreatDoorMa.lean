/-
  Numbers: format and Format.
-/
import Derived.Test.YtjnfldkcbcfboaaGreatDoorM9
import Derived.Test.YtjnfldkcbcfboaaGreatDoorNb
namespace Go.Proofs.YtjnfldkcbcfboaaGreatDoor
open Go.RowKit
open Nat (reduceAdd reduceEqDiff reduceLT reduceLeDiff reduceSub reducePow reduceMul)
open Int (reduceToNat reduceLE reduceEq)
set_option linter.unusedVariables false
set_option linter.unusedSimpArgs false
set_option linter.unnecessarySimpa false


def padL (m k : Nat) : List UInt8 := List.replicate (k - (Lib.decDigits m).length) 48 ++ Lib.decDigits m
def dotL (d : List UInt8) (p : Nat) : List UInt8 := if p = 0 then d else d.take (d.length - p) ++ [46] ++ d.drop (d.length - p)
def fmtL (n : Int) (p : Nat) : List UInt8 := if n < 0 then [45] ++ dotL (padL n.natAbs (p + 1)) p else dotL (padL n.natAbs (p + 1)) p
theorem padL_len (m k : Nat) : k ≤ (padL m k).length ∧ (padL m k).length ≤ max k (Lib.decDigits m).length := by
  unfold padL; rw [List.length_append, List.length_replicate]; omega
theorem digits_len {n : Int} (h : valB n = true) : (Lib.decDigits n.natAbs).length ≤ 16 := by
  have hv := valB_iff.1 h
  rw [Lib.decDigits_length]
  exact nDigits_le 16 _ (by omega) (by decide)
theorem rep0 (c : Nat) : Lib.repeatL [48] c = List.replicate c 48 := by
  have := Lib.repeatL_replicate 48 1 c
  rw [Nat.mul_one] at this; exact this
theorem itoa_abs (m : Nat) : Lib.itoa (m : Int) = Lib.decDigits m := by
  unfold Lib.itoa; rw [if_neg (by omega)]; rfl
theorem b48 : (⟨#[48]⟩ : ByteArray) = bA [48] := rfl
theorem b46 : (⟨#[46]⟩ : ByteArray) = bA [46] := rfl
theorem b45 : (⟨#[45]⟩ : ByteArray) = bA [45] := rfl
theorem abs_mx {n : Int} (h : valB n = true) : (if IntKind.wrap .i64 (0 - n) > n then IntKind.wrap .i64 (0 - n) else n) = (n.natAbs : Int) := by
  have hv := valB_iff.1 h
  rw [wrap_id ⟨by omega, by omega⟩]; split <;> omega
/-- Format's result: the empty text and ErrRange, or the text. -/
def fmtP (n p : Int) : PV := if valB n = true ∧ 0 ≤ p ∧ p ≤ 6 then .tup [txP (fmtL n p.toNat), intP 0] else .tup [txP [], intP 1]
end Go.Proofs.YtjnfldkcbcfboaaGreatDoor
