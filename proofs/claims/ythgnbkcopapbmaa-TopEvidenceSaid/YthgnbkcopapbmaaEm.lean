/-
  slices.SortFunc over a row of windows, by the shelf's contract.
-/
import Derived.Test.YthgnbkcopapbmaaEl
import Derived.Shelf.SlSortCmp.WholeK
import Derived.Shelf.SlSortCmp.NoneTotal
import Derived.Shelf.SlicesG.Cmp
namespace Go.Proofs.Ythgnbkcopapbmaa
open Go.RowKit
open Nat (reduceAdd reduceEqDiff reduceLT reduceLeDiff reduceSub reducePow reduceMul)
open Int (reduceToNat reduceLE reduceEq)
set_option linter.unusedVariables false
set_option linter.unusedSimpArgs false
set_option linter.unnecessarySimpa false

open Go.Shelf Go.Sort
def laysCmp_ren : Go.Shelf.Ren := ⟨fun | 5 => 71 | 7 => 79 | n => n, fun | 22 => 3 | 3 => 3 | 4 => 4 | n => n, fun n => n⟩
theorem laysCmp : SlLaysC2.n5 Try.prog laysCmp_ren := {
  mixed := by kernel_rfl
  f5 := by first | exact ⟨Try.f71.name, by kernel_rfl, Try.func71.trans (congrArg some (by kernel_rfl))⟩ | exact Try.func71.trans (congrArg some (by kernel_rfl))
  f7 := by first | exact ⟨Try.f79.name, by kernel_rfl, Try.func79.trans (congrArg some (by kernel_rfl))⟩ | exact Try.func79.trans (congrArg some (by kernel_rfl))
  t3 := Try.underlying3
  a3 := Try.isAgg3
  z3 := Try.sizeOf3
  v3 := Try.zeroValue3
  t4 := Try.underlying4
  a4 := Try.isAgg4
  z4 := Try.sizeOf4
  v4 := Try.zeroValue4
  t22 := Try.underlying3
  a22 := Try.isAgg3
  z22 := Try.sizeOf3
  v22 := Try.zeroValue3 }

def laysSortF_ren : Go.Shelf.Ren := ⟨fun | 6 => 69 | 15 => 36 | 14 => 81 | 28 => 62 | 29 => 63 | 20 => 84 | 21 => 85 | 22 => 86 | 23 => 87 | 24 => 88 | 25 => 89 | 26 => 90 | 27 => 91 | 46 => 93 | 47 => 75 | 48 => 76 | 49 => 94 | 50 => 95 | 57 => 96 | n => n, fun | 22 => 77 | 24 => 48 | 25 => 132 | 3 => 3 | 39 => 96 | 0 => 0 | 53 => 122 | 55 => 124 | 4 => 4 | 46 => 114 | 45 => 113 | 50 => 119 | 5 => 5 | 9 => 9 | 66 => 137 | 70 => 141 | 76 => 145 | 77 => 146 | n => n, fun n => n⟩
theorem laysSortF : SlLaysF0.n6 Try.prog laysSortF_ren := {
  mixed := by kernel_rfl
  f6 := by first | exact ⟨Try.f69.name, by kernel_rfl, Try.func69.trans (congrArg some (by kernel_rfl))⟩ | exact Try.func69.trans (congrArg some (by kernel_rfl))
  f14 := by first | exact ⟨Try.f81.name, by kernel_rfl, Try.func81.trans (congrArg some (by kernel_rfl))⟩ | exact Try.func81.trans (congrArg some (by kernel_rfl))
  f15 := by first | exact ⟨Try.f36.name, by kernel_rfl, Try.func36.trans (congrArg some (by kernel_rfl))⟩ | exact Try.func36.trans (congrArg some (by kernel_rfl))
  f20 := by first | exact ⟨Try.f84.name, by kernel_rfl, Try.func84.trans (congrArg some (by kernel_rfl))⟩ | exact Try.func84.trans (congrArg some (by kernel_rfl))
  f21 := by first | exact ⟨Try.f85.name, by kernel_rfl, Try.func85.trans (congrArg some (by kernel_rfl))⟩ | exact Try.func85.trans (congrArg some (by kernel_rfl))
  f22 := by first | exact ⟨Try.f86.name, by kernel_rfl, Try.func86.trans (congrArg some (by kernel_rfl))⟩ | exact Try.func86.trans (congrArg some (by kernel_rfl))
  f23 := by first | exact ⟨Try.f87.name, by kernel_rfl, Try.func87.trans (congrArg some (by kernel_rfl))⟩ | exact Try.func87.trans (congrArg some (by kernel_rfl))
  f24 := by first | exact ⟨Try.f88.name, by kernel_rfl, Try.func88.trans (congrArg some (by kernel_rfl))⟩ | exact Try.func88.trans (congrArg some (by kernel_rfl))
  f25 := by first | exact ⟨Try.f89.name, by kernel_rfl, Try.func89.trans (congrArg some (by kernel_rfl))⟩ | exact Try.func89.trans (congrArg some (by kernel_rfl))
  f26 := by first | exact ⟨Try.f90.name, by kernel_rfl, Try.func90.trans (congrArg some (by kernel_rfl))⟩ | exact Try.func90.trans (congrArg some (by kernel_rfl))
  f27 := by first | exact ⟨Try.f91.name, by kernel_rfl, Try.func91.trans (congrArg some (by kernel_rfl))⟩ | exact Try.func91.trans (congrArg some (by kernel_rfl))
  f28 := by first | exact ⟨Try.f62.name, by kernel_rfl, Try.func62.trans (congrArg some (by kernel_rfl))⟩ | exact Try.func62.trans (congrArg some (by kernel_rfl))
  f29 := by first | exact ⟨Try.f63.name, by kernel_rfl, Try.func63.trans (congrArg some (by kernel_rfl))⟩ | exact Try.func63.trans (congrArg some (by kernel_rfl))
  f46 := by first | exact ⟨Try.f93.name, by kernel_rfl, Try.func93.trans (congrArg some (by kernel_rfl))⟩ | exact Try.func93.trans (congrArg some (by kernel_rfl))
  f47 := by first | exact ⟨Try.f75.name, by kernel_rfl, Try.func75.trans (congrArg some (by kernel_rfl))⟩ | exact Try.func75.trans (congrArg some (by kernel_rfl))
  f48 := by first | exact ⟨Try.f76.name, by kernel_rfl, Try.func76.trans (congrArg some (by kernel_rfl))⟩ | exact Try.func76.trans (congrArg some (by kernel_rfl))
  f49 := by first | exact ⟨Try.f94.name, by kernel_rfl, Try.func94.trans (congrArg some (by kernel_rfl))⟩ | exact Try.func94.trans (congrArg some (by kernel_rfl))
  f50 := by first | exact ⟨Try.f95.name, by kernel_rfl, Try.func95.trans (congrArg some (by kernel_rfl))⟩ | exact Try.func95.trans (congrArg some (by kernel_rfl))
  f57 := by first | exact ⟨Try.f96.name, by kernel_rfl, Try.func96.trans (congrArg some (by kernel_rfl))⟩ | exact Try.func96.trans (congrArg some (by kernel_rfl))
  t0 := Try.underlying0
  a0 := Try.isAgg0
  z0 := Try.sizeOf0
  v0 := Try.zeroValue0
  t3 := Try.underlying3
  a3 := Try.isAgg3
  z3 := Try.sizeOf3
  v3 := Try.zeroValue3
  t4 := Try.underlying4
  a4 := Try.isAgg4
  z4 := Try.sizeOf4
  v4 := Try.zeroValue4
  t5 := Try.underlying5
  a5 := Try.isAgg5
  z5 := Try.sizeOf5
  v5 := Try.zeroValue5
  t9 := Try.underlying9
  a9 := Try.isAgg9
  z9 := Try.sizeOf9
  v9 := Try.zeroValue9
  t22 := Try.underlying77
  a22 := Try.isAgg77
  z22 := Try.sizeOf77
  v22 := Try.zeroValue77
  t25 := Try.underlying132
  a25 := Try.isAgg132
  z25 := Try.sizeOf132
  v25 := Try.zeroValue132
  t39 := Try.underlying96
  a39 := Try.isAgg96
  z39 := Try.sizeOf96
  v39 := Try.zeroValue96
  t45 := Try.underlying113
  a45 := Try.isAgg113
  z45 := Try.sizeOf113
  v45 := Try.zeroValue113
  t46 := Try.underlying114
  a46 := Try.isAgg114
  z46 := Try.sizeOf114
  v46 := Try.zeroValue114
  t50 := Try.underlying119
  a50 := Try.isAgg119
  z50 := Try.sizeOf119
  v50 := Try.zeroValue119
  t53 := Try.underlying122
  a53 := Try.isAgg122
  z53 := Try.sizeOf122
  v53 := Try.zeroValue122
  t55 := Try.underlying124
  a55 := Try.isAgg124
  z55 := Try.sizeOf124
  v55 := Try.zeroValue124
  t66 := Try.underlying137
  a66 := Try.isAgg137
  z66 := Try.sizeOf137
  v66 := Try.zeroValue137
  t70 := Try.underlying141
  a70 := Try.isAgg141
  z70 := Try.sizeOf141
  v70 := Try.zeroValue141
  t76 := Try.underlying145
  a76 := Try.isAgg145
  z76 := Try.sizeOf145
  v76 := Try.zeroValue145
  t77 := Try.underlying146
  a77 := Try.isAgg146
  z77 := Try.sizeOf146
  v77 := Try.zeroValue146 }

def cfW (x y : WinS) : Int := Lib.compareInt x.from_ y.from_
theorem ltW (x y : WinS) : ltOf cfW x y = decide (x.from_ < y.from_) := by
  unfold ltOf cfW Lib.compareInt
  by_cases h1 : x.from_ < y.from_
  · simp [h1]
  · by_cases h2 : y.from_ < x.from_ <;> simp [h1, h2]
theorem swoW : SWO (ltOf cfW) where
  irrefl x := by rw [ltW]; simp
  trans x y z h1 h2 := by rw [ltW] at *; simp at *; omega
  ntrans x y z h1 h2 := by rw [ltW] at *; simp at *; omega
def sortW (l : List WinS) : List WinS := (pdq (ltOf cfW) l.toArray 0 l.length (Lib.bitLen l.length) true true).toList
theorem sortW_all (l : List WinS) : PermIn 0 l.length l.toArray (sortW l).toArray ∧ SortedIn (ltOf cfW) 0 l.length (sortW l).toArray := by
  have h := pdq_sorts (ltOf cfW) swoW l.toArray 0 l.length (Lib.bitLen l.length) true true (Nat.zero_le _) (Nat.le_refl _) (Or.inl rfl)
  exact h
theorem sortW_len (l : List WinS) : (sortW l).length = l.length := by
  have := (sortW_all l).1.1
  simpa using this
theorem sortW_perm (l : List WinS) : (sortW l).Perm l := by
  have := (sortW_all l).1.2.2
  have h := sortW_len l
  simp at this
  rw [List.take_of_length_le (by omega)] at this
  exact this
theorem sortW_asc (l : List WinS) : (sortW l).Pairwise (fun x y => x.from_ ≤ y.from_) := by
  have h := (sortW_all l).2
  have hl := sortW_len l
  rw [List.pairwise_iff_getElem]
  intro i j hi hj hij
  have := h i j (Nat.zero_le _) hij (by omega)
  rw [ltW] at this
  simp [hi, hj] at this
  exact this
set_option maxHeartbeats 1000000 in
theorem closureW (x y : WinS) (W : World) : Calls Try.prog 70 #[.agg (encW x).toArray, .agg (encW y).toArray] W fun e w' => e = .returned (.int .i64 (cfW x y)) ∧ ∃ q os', w' = grow (W.drewN q) os' := by
  have hcon := fun W' => AnyG.cmp_Compare_int laysCmp x.from_ y.from_ W'
  change ∀ W', Calls Try.prog 71 _ _ _ at hcon
  unfold encW cfW
  generalize Lib.compareInt x.from_ y.from_ = r at hcon ⊢
  go_enter Try.func70, Try.ntmps70
  go_wp2_with (go_at_call 71; refine (hcon _).mono ?_; rintro e w' ⟨rfl, rfl⟩)
  go_ret
  exact ⟨rfl, 0, _, by rw [alloc_eq_grow, alloc_eq_grow, grow_grow]; rfl⟩
theorem cmpLaysW (blk off size : Nat) (w : World) : CmpLays Try.prog 70 #[] encW 2 cfW blk off size w :=
  fun _ _ _ _ x y => closureW x y _
set_option maxHeartbeats 1000000 in
theorem sortw_pos (l : List WinS) (hl : 0 < l.length) (hn : l.length ≤ 1000000) : GoodM Try.prog 69 [] [.sc (.func (.func 70) #[] #[])] 48 2 (l.map WinS.pv) (.tup []) ((sortW l).map WinS.pv) := by
  intro M H w us vs xs hdr hM hpre hpost _ hown hfl hpw hMk hH _
  obtain ⟨v, vs', rfl, hv, hp⟩ := pw_cons.1 hpost
  rw [pw_nil] at hpre hp; subst hpre hp
  have ev := hv.sc_inv
  subst ev
  rw [List.length_map] at hown
  have hx : xs = l.flatMap encW := by
    rw [wins_flatL] at hpw
    exact (pw_sc.1 hpw).1.symm
  have hrg : ∀ u ∈ l.flatMap encW, rngB u = true := by
    rw [wins_flatL] at hpw
    exact (pw_sc.1 hpw).2
  obtain ⟨hlen, hcase⟩ := hown
  rcases hcase with ⟨_, hz⟩ | ⟨g, cap, cur, rfl, hg, hgg, hle, hmx, hcs, htk⟩
  · omega
  rw [hx, ← flatW_len] at htk
  have hgl : g < w.heap.size := hM g (hMk g rfl)
  have hB := holds_of_blockV hgg htk
  rw [← flatK_wins] at hB
  have eg : ∀ args w, (callFunc 70 args).run Try.prog w = .ok (.enter 70 args) w := enters_of Try.func70 (by kernel_rfl) rfl
  have hs := sortW_len l
  have hsz : l.toArray.size = l.length := rfl
  have hcon := AnyQ.slices_SortFunc_eq laysSortF 2 Try.isAgg48 Try.sizeOf48 encW (fun _ => rfl) (fun x v hv => by simp [encW] at hv; rcases hv with rfl | rfl <;> rfl) cfW swoW 70 #[] g 0 cap l.toArray w eg (cmpLaysW g 0 l.toArray.size w) hB hgl (by rw [hsz]; omega)
  change Calls Try.prog 69 _ _ _ at hcon
  refine hcon.mono ?_
  rintro en w' ⟨rfl, n, os, hw⟩
  have e1 : pdq (ltOf cfW) l.toArray 0 l.toArray.size (Lib.bitLen l.toArray.size) true true = (sortW l).toArray := by unfold sortW; simp
  rw [e1] at hw
  unfold sortWorldK putRowK at hw
  rw [flatK_wins] at hw
  subst hw
  obtain ⟨G1, G2, G3, G4, G5⟩ := grownBy_sortedV (w := w) (g := g) (n := n) (os := os) ((sortW l).flatMap encW).toArray
  have O := ownsRow_sortedV (n := n) (os := os) (base := H) (us := (sortW l).flatMap encW) (m := l.length) (sz := 2) (by rw [flatW_len, hs]) hg hgg hle hmx hcs
  refine ⟨.tuple #[], (sortW l).flatMap encW, rfl, ⟨G4, fun k hk hne => G5 k hk (fun e => hne (by rw [e]; rfl))⟩, ⟨G1, G2, G3⟩, ?_, fun q hq => ?_, ?_, ?_⟩
  · rw [List.length_map, hs]; exact O
  · obtain ⟨x, _, rfl⟩ := List.mem_map.1 hq; rfl
  · rw [wins_flatL]; exact pw_sc.2 ⟨rfl, (fun v hv => by
      obtain ⟨x, hx, hv⟩ := List.mem_flatMap.1 hv
      exact hrg v (List.mem_flatMap.2 ⟨x, (sortW_perm l).mem_iff.1 hx, hv⟩))⟩
  · exact .tup [] [] rfl (fun j p v h => by cases h)
theorem sortw_nil : GoodM Try.prog 69 [] [.sc (.func (.func 70) #[] #[])] 48 2 ([].map WinS.pv) (.tup []) ((sortW []).map WinS.pv) := by
  intro M H w us vs xs hdr hM hpre hpost _ hown hfl hpw hMk hH _
  obtain ⟨v, vs', rfl, hv, hp⟩ := pw_cons.1 hpost
  rw [pw_nil] at hpre hp; subst hpre hp
  have ev := hv.sc_inv
  subst ev
  have hs : sortW [] = [] := List.eq_nil_of_length_eq_zero (sortW_len [])
  rw [hs]
  obtain ⟨a, cap, rfl⟩ : ∃ a cap, hdr = .slice a 0 cap := by
    rcases hown.2 with ⟨h, _⟩ | ⟨g, cap, cur, h, _⟩
    · exact ⟨none, 0, h⟩
    · exact ⟨_, cap, h⟩
  have hcon := AnyF.slices_SortFunc_none laysSortF a cap (.func (.func 70) #[] #[]) w
  change Calls Try.prog 69 _ _ _ at hcon
  refine hcon.mono ?_
  rintro en w' ⟨rfl, rfl⟩
  exact ⟨.tuple #[], xs, rfl, ⟨Nat.le_refl _, fun _ _ _ => rfl⟩, ⟨rfl, rfl, rfl⟩, hown, hfl, hpw, .tup [] [] rfl (fun j p v h => by cases h)⟩
theorem sortw_m (l : List WinS) (hn : l.length ≤ 1000000) : GoodM Try.prog 69 [] [.sc (.func (.func 70) #[] #[])] 48 2 (l.map WinS.pv) (.tup []) ((sortW l).map WinS.pv) := by
  cases l with
  | nil => exact sortw_nil
  | cons x l => exact sortw_pos _ (by simp) hn


end Go.Proofs.Ythgnbkcopapbmaa
