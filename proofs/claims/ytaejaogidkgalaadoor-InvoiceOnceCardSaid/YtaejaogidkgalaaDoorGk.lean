/-
  What the rows' listed variable holds, as the walks want it.
-/
import Derived.Test.YtaejaogidkgalaaDoorYb
import Derived.Test.YtaejaogidkgalaaDoorRows
import Derived.ProofKit
import Derived.LaidMore
import Derived.Lay
import Derived.SevenTiedAt
import Derived.Stop.Joined
import Derived.Stop.LaidErr
import Derived.Lib.LaidU8
import Derived.Lib.LaidTab
namespace Go.Proofs.YtaejaogidkgalaaDoor
open Go.RowKit
open Nat (reduceAdd reduceEqDiff reduceLT reduceLeDiff reduceSub reducePow reduceMul)
open Int (reduceToNat reduceLE reduceEq)
set_option linter.unusedVariables false
set_option linter.unusedSimpArgs false
set_option linter.unnecessarySimpa false

open Go.RowKit
theorem var_heap {w : World} {n : String} {g : Nat} {cs : Array Value} (hg : Tryd.prog.globalNamed n = some g) (h : w.var? Tryd.prog n = some cs) : g < w.heap.size ∧ ∃ ty x, w.heap[g]? = some (.cells cs ty x) := by
  unfold World.var? at h
  rw [hg, Option.bind_some] at h
  split at h
  · rename_i c ty x hh
    cases h
    exact ⟨(Array.getElem?_eq_some_iff.1 hh).1, _, _, hh⟩
  · cases h
theorem glob_laid {W : World} (h : laidMetH Tryd.prog Rows.invoiceMakesRow.laid W) : GlobW W W.heap.size := by
  rw [MakeChecks.laidMetH_plain _ _ _ (by kernel_rfl)] at h
  have h : laidMet Tryd.prog [("math/bits.deBruijn32tab", Rows.laid_math_bits_deBruijn32tab), ("math/bits.deBruijn64tab", Rows.laid_math_bits_deBruijn64tab), ("internal/strconv.uint64pow10", Rows.laid_internal_strconv_uint64pow10)] W := h
  have g4 : Tryd.prog.globalNamed "internal/strconv.uint64pow10" = some 0 := by kernel_rfl
  have ht : Lib.TabIs Tryd.prog W "internal/strconv.uint64pow10" .u64 Lib.pow10Tab := Lib.tabIs_of_head g4 (show (Tryd.prog.globals[0]?).map (·.type) = some 130 by kernel_rfl) Tryd.underlying130 Tryd.underlying117 (by kernel_rfl) (by kernel_rfl) h.tail.tail
  intro g hg
  unfold globs at hg
  rcases List.mem_cons.1 hg with rfl | hg
  · obtain ⟨h1, ty, x, h2⟩ := var_heap g4 ht
    exact ⟨h1, _, h2, ty, x, rfl⟩
  · cases hg


end Go.Proofs.YtaejaogidkgalaaDoor
