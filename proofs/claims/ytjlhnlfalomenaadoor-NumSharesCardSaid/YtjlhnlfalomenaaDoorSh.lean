/-
  The structures that the statements speak of, and their abstract values.
-/
import Derived.Test.YtjlhnlfalomenaaDoorKd
namespace Go.Proofs.YtjlhnlfalomenaaDoor
set_option linter.unusedVariables false
def intP (n : Int) : PV := .sc (.int .i64 n)
def boolP (b : Bool) : PV := .sc (.bool b)
def strP (s : ByteArray) : PV := .sc (.string s)
def intsP (l : List Int) : PV := .sl (l.map intP)
theorem intP_of (p : PV) (h : HasC (.i .i64) p) : ∃ x, p = intP x := by obtain ⟨n, rfl⟩ := h.int_inv; exact ⟨n, rfl⟩
theorem boolP_of (p : PV) (h : HasC .b p) : ∃ x, p = boolP x := by obtain ⟨n, rfl⟩ := h.bool_inv; exact ⟨n, rfl⟩
theorem strP_of (p : PV) (h : HasC .s p) : ∃ x, p = strP x := by obtain ⟨n, rfl⟩ := h.str_inv; exact ⟨n, rfl⟩
end Go.Proofs.YtjlhnlfalomenaaDoor
