/-
  Strings as lists of bytes.
-/
import Derived.Test.YtaejaogidkgalaaDoorSh
import Derived.Lib.Strings
namespace Go.Proofs.YtaejaogidkgalaaDoor
open Go.RowKit
open Nat (reduceAdd reduceEqDiff reduceLT reduceLeDiff reduceSub reducePow reduceMul)
open Int (reduceToNat reduceLE reduceEq)
set_option linter.unusedVariables false
set_option linter.unusedSimpArgs false
set_option linter.unnecessarySimpa false

def bA (l : List UInt8) : ByteArray := ⟨l.toArray⟩
def txP (l : List UInt8) : PV := .sc (.string (bA l))
theorem bA_size (l : List UInt8) : (bA l).size = l.length := by simp [bA, ByteArray.size]
theorem bA_append (l m : List UInt8) : bA l ++ bA m = bA (l ++ m) := by
  apply ByteArray.ext; simp [bA]
theorem bA_data (l : List UInt8) : (bA l).data.toList = l := by simp [bA]
theorem bA_of (s : ByteArray) : bA s.data.toList = s := by simp [bA]
theorem bA_extract (l : List UInt8) (a b : Nat) : (bA l).extract a b = bA ((l.take b).drop a) := by
  apply ByteArray.ext
  simp [bA, List.drop_take]
theorem bA_get (l : List UInt8) (i : Nat) : (bA l)[i]? = l[i]? := by
  by_cases h : i < l.length
  · rw [List.getElem?_eq_getElem h, getElem?_pos (bA l) i (by rw [bA_size]; exact h)]
    congr 1
  · rw [List.getElem?_eq_none (by omega), getElem?_neg (bA l) i (by rw [bA_size]; exact h)]
theorem bA_inj {l m : List UInt8} (h : bA l = bA m) : l = m := by
  have := congrArg (fun s => s.data.toList) h; simpa [bA] using this
theorem bA_toList (l : List UInt8) : (bA l).toList = l := by
  have h := Lib.toList_data (bA l)
  rw [bA_data] at h; exact h
theorem bA_beq (l m : List UInt8) : ((bA l).toList == (bA m).toList) = decide (l = m) := by
  rw [bA_toList, bA_toList]
  by_cases h : l = m
  · subst h; simp
  · rw [decide_eq_false h]; exact beq_eq_false_iff_ne.2 h
theorem rng_str {l : List UInt8} : rngB (.string (bA l)) = true ↔ l.length ≤ 9223372036854775807 := by
  simp [rngB, bA_size]
theorem Good.strlen {P : Program} {f : FuncId} {args : List PV} {r : PV} {l : List UInt8} (hm : txP l ∈ args) (h : l.length ≤ 9223372036854775807 → Good P f args r) : Good P f args r :=
  .fact _ (fun M w vs hp => by obtain ⟨v, hv⟩ := hp.mem hm; exact rng_str.1 hv.sc_rng) h
theorem meas_lt {n k : Nat} (h : k < n) : n - (k + 1) < n - k := by omega


end Go.Proofs.YtaejaogidkgalaaDoor
