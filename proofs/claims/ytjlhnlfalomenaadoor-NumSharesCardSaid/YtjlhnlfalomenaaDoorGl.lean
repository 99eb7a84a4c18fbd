/-
  What the rows' listed variables hold, as the walks want it.
-/
import Derived.Test.YtjlhnlfalomenaaDoorM9
import Derived.Test.YtjlhnlfalomenaaDoorRows
import Derived.ProofKit
import Derived.LaidMore
import Derived.Lay
import Derived.SevenTiedAt
import Derived.Stop.Joined
import Derived.Stop.LaidErr
import Derived.Lib.LaidU8
import Derived.Lib.LaidTab
namespace Go.Proofs.YtjlhnlfalomenaaDoor
open Go.RowKit
open Nat (reduceAdd reduceEqDiff reduceLT reduceLeDiff reduceSub reducePow reduceMul)
open Int (reduceToNat reduceLE reduceEq)
set_option linter.unusedVariables false
set_option linter.unusedSimpArgs false
set_option linter.unnecessarySimpa false

open Go.RowKit
theorem var_heap {w : World} {n : String} {g : Nat} {cs : Array Value} (hg : Tryd.prog.globalNamed n = some g) (h : w.var? Tryd.prog n = some cs) : g < w.heap.size ∧ ∃ ty x, w.heap[g]? = some (.cells cs ty x) := by
  unfold World.var? at h
  rw [hg, Option.bind_some] at h
  split at h
  · rename_i c ty x hh
    cases h
    exact ⟨(Array.getElem?_eq_some_iff.1 hh).1, _, _, hh⟩
  · cases h
theorem rowErr (u : TypeId) (h : Tryd.prog.typeName? 3 u = some "*errors.errorString") : u = 102 :=
  typeName_ptr_named (nm := "errors.errorString") (by rw [show "*" ++ "errors.errorString" = "*errors.errorString" by decide]; kernel_rfl) (by kernel_rfl) (by decide) u (by rw [show "*" ++ "errors.errorString" = "*errors.errorString" by decide]; exact h)
theorem glob_laid {W : World} (h : laidMetH Tryd.prog Rows.numSumsRow.laid W) : GlobW W W.heap.size := by
  rw [MakeChecks.laidMetH_plain _ _ _ (by kernel_rfl)] at h
  have h : laidMet Tryd.prog [("math/bits.deBruijn32tab", Rows.laid_math_bits_deBruijn32tab), ("math/bits.deBruijn64tab", Rows.laid_math_bits_deBruijn64tab), ("internal/strconv.uint64pow10", Rows.laid_internal_strconv_uint64pow10), ("strconv.ErrRange", Rows.laid_strconv_ErrRange), ("strconv.ErrSyntax", Rows.laid_strconv_ErrSyntax)] W := h
  have g4 : Tryd.prog.globalNamed "internal/strconv.uint64pow10" = some 4 := by kernel_rfl
  have g3 : Tryd.prog.globalNamed "strconv.ErrRange" = some 3 := by kernel_rfl
  have g2 : Tryd.prog.globalNamed "strconv.ErrSyntax" = some 2 := by kernel_rfl
  have ht : Lib.TabIs Tryd.prog W "internal/strconv.uint64pow10" .u64 Lib.pow10Tab := Lib.tabIs_of_head g4 (show (Tryd.prog.globals[4]?).map (·.type) = some 107 by kernel_rfl) Tryd.underlying107 Tryd.underlying47 (by kernel_rfl) (by kernel_rfl) h.tail.tail
  obtain ⟨a0, s0, hv0, -, -, -⟩ := laid_sentinel h.tail.tail.tail g3 (show (Tryd.prog.globals[3]?).map (·.type) = some 56 by kernel_rfl) Tryd.underlying56 rowErr Tryd.underlying102 Tryd.underlying104 rfl rfl Tryd.underlying9 (by kernel_rfl) (by kernel_rfl)
  obtain ⟨a1, s1, hv1, -, -, -⟩ := laid_sentinel h.tail.tail.tail.tail g2 (show (Tryd.prog.globals[2]?).map (·.type) = some 56 by kernel_rfl) Tryd.underlying56 rowErr Tryd.underlying102 Tryd.underlying104 rfl rfl Tryd.underlying9 (by kernel_rfl) (by kernel_rfl)
  intro g hg
  unfold globs at hg
  rcases List.mem_cons.1 hg with rfl | hg
  · obtain ⟨h1, ty, x, h2⟩ := var_heap g4 ht
    exact ⟨h1, _, h2, ty, x, rfl⟩
  rcases List.mem_cons.1 hg with rfl | hg
  · obtain ⟨h1, ty, x, h2⟩ := var_heap g3 hv0
    exact ⟨h1, _, h2, _, _, ty, x, rfl⟩
  rcases List.mem_cons.1 hg with rfl | hg
  · obtain ⟨h1, ty, x, h2⟩ := var_heap g2 hv1
    exact ⟨h1, _, h2, _, _, ty, x, rfl⟩
  · cases hg


end Go.Proofs.YtjlhnlfalomenaaDoor
