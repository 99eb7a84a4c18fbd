/-
  slices.Sort over a row of integers, by the shelf's contract.
-/
import Derived.Test.YthgnbkcopapbmaaIp
import Derived.Shelf.Sort.Plain
import Derived.Sort.OwnSortedInts
namespace Go.Proofs.Ythgnbkcopapbmaa
open Go.RowKit
open Nat (reduceAdd reduceEqDiff reduceLT reduceLeDiff reduceSub reducePow reduceMul)
open Int (reduceToNat reduceLE reduceEq)
set_option linter.unusedVariables false
set_option linter.unusedSimpArgs false
set_option linter.unnecessarySimpa false


open Go.Shelf Go.Sort
def laysSort_ren : Go.Shelf.Ren := ⟨fun | 189 => 19 | 125 => 36 | 257 => 35 | 128 => 62 | 129 => 63 | 294 => 53 | 295 => 54 | 296 => 55 | 297 => 56 | 298 => 57 | 299 => 58 | 216 => 59 | 300 => 60 | 301 => 61 | 328 => 74 | 329 => 75 | 330 => 76 | 331 => 77 | 332 => 78 | 215 => 79 | 343 => 83 | n => n, fun | 28 => 22 | 3 => 3 | 46 => 96 | 0 => 0 | 51 => 122 | 53 => 124 | 4 => 4 | 183 => 114 | 182 => 113 | 131 => 119 | 5 => 5 | 9 => 9 | 218 => 137 | 222 => 141 | 228 => 145 | 229 => 146 | n => n, fun n => n⟩
theorem laysSort : Lays.n189 Try.prog laysSort_ren := {
  mixed := by kernel_rfl
  f125 := Try.func36.trans (congrArg some (by kernel_rfl))
  f128 := Try.func62.trans (congrArg some (by kernel_rfl))
  f129 := Try.func63.trans (congrArg some (by kernel_rfl))
  f189 := Try.func19.trans (congrArg some (by kernel_rfl))
  f215 := Try.func79.trans (congrArg some (by kernel_rfl))
  f216 := Try.func59.trans (congrArg some (by kernel_rfl))
  f257 := Try.func35.trans (congrArg some (by kernel_rfl))
  f294 := Try.func53.trans (congrArg some (by kernel_rfl))
  f295 := Try.func54.trans (congrArg some (by kernel_rfl))
  f296 := Try.func55.trans (congrArg some (by kernel_rfl))
  f297 := Try.func56.trans (congrArg some (by kernel_rfl))
  f298 := Try.func57.trans (congrArg some (by kernel_rfl))
  f299 := Try.func58.trans (congrArg some (by kernel_rfl))
  f300 := Try.func60.trans (congrArg some (by kernel_rfl))
  f301 := Try.func61.trans (congrArg some (by kernel_rfl))
  f328 := Try.func74.trans (congrArg some (by kernel_rfl))
  f329 := Try.func75.trans (congrArg some (by kernel_rfl))
  f330 := Try.func76.trans (congrArg some (by kernel_rfl))
  f331 := Try.func77.trans (congrArg some (by kernel_rfl))
  f332 := Try.func78.trans (congrArg some (by kernel_rfl))
  f343 := Try.func83.trans (congrArg some (by kernel_rfl))
  t0 := Try.underlying0
  a0 := Try.isAgg0
  z0 := Try.sizeOf0
  v0 := Try.zeroValue0
  t3 := Try.underlying3
  a3 := Try.isAgg3
  z3 := Try.sizeOf3
  v3 := Try.zeroValue3
  t4 := Try.underlying4
  a4 := Try.isAgg4
  z4 := Try.sizeOf4
  v4 := Try.zeroValue4
  t5 := Try.underlying5
  a5 := Try.isAgg5
  z5 := Try.sizeOf5
  v5 := Try.zeroValue5
  t9 := Try.underlying9
  a9 := Try.isAgg9
  z9 := Try.sizeOf9
  v9 := Try.zeroValue9
  t28 := Try.underlying22
  a28 := Try.isAgg22
  z28 := Try.sizeOf22
  v28 := Try.zeroValue22
  t46 := Try.underlying96
  a46 := Try.isAgg96
  z46 := Try.sizeOf96
  v46 := Try.zeroValue96
  t51 := Try.underlying122
  a51 := Try.isAgg122
  z51 := Try.sizeOf122
  v51 := Try.zeroValue122
  t53 := Try.underlying124
  a53 := Try.isAgg124
  z53 := Try.sizeOf124
  v53 := Try.zeroValue124
  t131 := Try.underlying119
  a131 := Try.isAgg119
  z131 := Try.sizeOf119
  v131 := Try.zeroValue119
  t182 := Try.underlying113
  a182 := Try.isAgg113
  z182 := Try.sizeOf113
  v182 := Try.zeroValue113
  t183 := Try.underlying114
  a183 := Try.isAgg114
  z183 := Try.sizeOf114
  v183 := Try.zeroValue114
  t218 := Try.underlying137
  a218 := Try.isAgg137
  z218 := Try.sizeOf137
  v218 := Try.zeroValue137
  t222 := Try.underlying141
  a222 := Try.isAgg141
  z222 := Try.sizeOf141
  v222 := Try.zeroValue141
  t228 := Try.underlying145
  a228 := Try.isAgg145
  z228 := Try.sizeOf145
  v228 := Try.zeroValue145
  t229 := Try.underlying146
  a229 := Try.isAgg146
  z229 := Try.sizeOf146
  v229 := Try.zeroValue146 }

def sortL (l : List Int) : List Int := l.mergeSort fun x y => decide (x ≤ y)
theorem sortL_len (l : List Int) : (sortL l).length = l.length := List.length_mergeSort l
theorem sortL_mem {l : List Int} {x : Int} : x ∈ sortL l ↔ x ∈ l := List.mem_mergeSort
theorem sortL_asc (l : List Int) : (sortL l).Pairwise (fun x y => x ≤ y) := by
  have h := List.pairwise_mergeSort (le := fun x y : Int => decide (x ≤ y)) (fun a b c h1 h2 => by simp only [decide_eq_true_eq] at *; omega) (fun a b => by simp only [Bool.or_eq_true, decide_eq_true_eq]; omega) l
  exact h.imp (fun h => of_decide_eq_true h)
theorem ints_flatS (l : List Int) : flatL (l.map intP) = (l.map fun x => Value.int .i64 x).map .sc := by
  induction l with
  | nil => rfl
  | cons y l ih => simp only [List.map_cons, flatL, List.flatMap_cons] at ih ⊢; rw [ih]; rfl
theorem sort_m (l : List Int) (hl : 0 < l.length) (hn : l.length ≤ 1000000) : GoodM Try.prog 19 [] [] 3 1 (l.map intP) (.tup []) ((sortL l).map intP) := by
  intro M H w us vs xs hdr hM hpre hpost _ hown hfl hpw hMk hH
  rw [pw_nil] at hpre hpost; subst hpre hpost
  rw [List.length_map] at hown
  have hx : xs = l.map fun x => .int .i64 x := by
    rw [ints_flatS] at hpw
    exact (pw_sc.1 hpw).1.symm
  have hrg : ∀ x ∈ l, rngB (Value.int .i64 x) = true := by
    rw [ints_flatS] at hpw
    have := (pw_sc.1 hpw).2
    intro x hx
    exact this _ (List.mem_map.2 ⟨x, hx, rfl⟩)
  obtain ⟨hlen, hcase⟩ := hown
  rcases hcase with ⟨_, hz⟩ | ⟨g, cap, cur, rfl, hg, hgg, hle, hmx, hcs, htk⟩
  · omega
  rw [Nat.mul_one, hx] at htk
  have hgl : g < w.heap.size := hM g (hMk g rfl)
  have hB := holds_of_blockI (ss := l) hgg htk
  have hs : (sortL l).length = l.length := sortL_len l
  refine (Any.slices_Sort_int laysSort g 0 cap l w hB hgl (by omega)).mono ?_
  rintro en w' ⟨rfl, n, os, rfl⟩
  obtain ⟨G1, G2, G3, G4, G5⟩ := grownBy_sortedI (w := w) (g := g) (n := n) (os := os) (sortL l).toArray
  have O := ownsRow_sortedI (n := n) (os := os) (base := H) hs hg hgg hle hmx hcs
  refine ⟨.tuple #[], (sortL l).map fun x => .int .i64 x, rfl, ⟨G4, fun k hk hne => G5 k hk (fun e => hne (by rw [e]; rfl))⟩, ⟨G1, G2, G3⟩, ?_, fun q hq => ?_, ?_, ?_⟩
  · rw [List.length_map, hs]; exact O
  · obtain ⟨x, _, rfl⟩ := List.mem_map.1 hq; rfl
  · rw [ints_flatS]; exact pw_sc.2 ⟨rfl, (fun v hv => by obtain ⟨x, hx, rfl⟩ := List.mem_map.1 hv; exact hrg x (sortL_mem.1 hx))⟩
  · exact .tup [] [] rfl (fun j p v h => by cases h)


end Go.Proofs.Ythgnbkcopapbmaa
