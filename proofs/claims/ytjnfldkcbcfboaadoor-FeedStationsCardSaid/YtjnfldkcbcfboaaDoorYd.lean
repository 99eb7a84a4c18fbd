/-
  strings.Join by the shelf's contract.
-/
import Derived.Test.YtjnfldkcbcfboaaDoorYa
import Derived.Shelf.Strings.OnBuilder
namespace Go.Proofs.YtjnfldkcbcfboaaDoor
open Go.RowKit
open Nat (reduceAdd reduceEqDiff reduceLT reduceLeDiff reduceSub reducePow reduceMul)
open Int (reduceToNat reduceLE reduceEq)
set_option linter.unusedVariables false
set_option linter.unusedSimpArgs false
set_option linter.unnecessarySimpa false


open Go.Shelf
def laysJoin_ren : Go.Shelf.Ren := ⟨fun | 156 => 32 | 165 => 52 | 166 => 53 | 169 => 54 | 240 => 66 | 241 => 67 | 276 => 73 | 277 => 74 | n => n, fun | 31 => 34 | 9 => 9 | 3 => 3 | 4 => 4 | 0 => 0 | 20 => 20 | 72 => 86 | 76 => 90 | 70 => 83 | 37 => 84 | 75 => 89 | 127 => 96 | 164 => 101 | 5 => 5 | 80 => 92 | n => n, fun n => n⟩
theorem laysJoin : Lays.n156 Tryd.prog laysJoin_ren := {
  mixed := by kernel_rfl
  f156 := Tryd.func32.trans (congrArg some (by kernel_rfl))
  f165 := Tryd.func52.trans (congrArg some (by kernel_rfl))
  f166 := Tryd.func53.trans (congrArg some (by kernel_rfl))
  f169 := Tryd.func54.trans (congrArg some (by kernel_rfl))
  f240 := Tryd.func66.trans (congrArg some (by kernel_rfl))
  f241 := Tryd.func67.trans (congrArg some (by kernel_rfl))
  f276 := Tryd.func73.trans (congrArg some (by kernel_rfl))
  f277 := Tryd.func74.trans (congrArg some (by kernel_rfl))
  t0 := Tryd.underlying0
  a0 := Tryd.isAgg0
  z0 := Tryd.sizeOf0
  v0 := Tryd.zeroValue0
  t3 := Tryd.underlying3
  a3 := Tryd.isAgg3
  z3 := Tryd.sizeOf3
  v3 := Tryd.zeroValue3
  t4 := Tryd.underlying4
  a4 := Tryd.isAgg4
  z4 := Tryd.sizeOf4
  v4 := Tryd.zeroValue4
  t9 := Tryd.underlying9
  a9 := Tryd.isAgg9
  z9 := Tryd.sizeOf9
  v9 := Tryd.zeroValue9
  t20 := Tryd.underlying20
  a20 := Tryd.isAgg20
  z20 := Tryd.sizeOf20
  v20 := Tryd.zeroValue20
  t31 := Tryd.underlying34
  a31 := Tryd.isAgg34
  z31 := Tryd.sizeOf34
  v31 := Tryd.zeroValue34
  t37 := Tryd.underlying84
  a37 := Tryd.isAgg84
  z37 := Tryd.sizeOf84
  v37 := Tryd.zeroValue84
  t70 := Tryd.underlying83
  a70 := Tryd.isAgg83
  z70 := Tryd.sizeOf83
  v70 := Tryd.zeroValue83
  t72 := Tryd.underlying86
  a72 := Tryd.isAgg86
  z72 := Tryd.sizeOf86
  v72 := Tryd.zeroValue86
  t75 := Tryd.underlying89
  a75 := Tryd.isAgg89
  z75 := Tryd.sizeOf89
  v75 := Tryd.zeroValue89
  t76 := Tryd.underlying90
  a76 := Tryd.isAgg90
  z76 := Tryd.sizeOf90
  v76 := Tryd.zeroValue90
  t127 := Tryd.underlying96
  a127 := Tryd.isAgg96
  z127 := Tryd.sizeOf96
  v127 := Tryd.zeroValue96
  t164 := Tryd.underlying101
  a164 := Tryd.isAgg101
  z164 := Tryd.sizeOf101
  v164 := Tryd.zeroValue101 }

theorem extraJoin : Builder.Extra Tryd.prog laysJoin_ren where
  sizeBuilder := by kernel_rfl
  liesBuilder := by kernel_rfl
  t5 := Tryd.underlying5
  a5 := Tryd.isAgg5
  z5 := Tryd.sizeOf5
  v5 := Tryd.zeroValue5
  infoByte := by kernel_rfl
  cellsByte := by kernel_rfl
  sizeByte := by kernel_rfl
  neB5 := by decide
theorem pw_tx {M : Nat → Prop} {w : World} {s : List UInt8} {vs : List Value} (h : Pw (RepI M w) [txP s] vs) : vs = [.string (bA s)] := by
  obtain ⟨v, vs', rfl, h1, h2⟩ := pw_cons.1 h
  rw [pw_nil] at h2; subst h2
  rw [h1.sc_inv]
theorem join_g (l : List (List UInt8)) (sep : List UInt8) (hl : l.length ≤ 1000000) (hb : (Lib.join l sep).length ≤ 1000000000) : Good Tryd.prog 32 [.sl (l.map txP), txP sep] (txP (Lib.join l sep)) := by
  refine .of_ret (rng_str.2 (by omega)) (fun M w vs hM hp hG => ?_)
  obtain ⟨v1, vs1, rfl, h1, hp⟩ := pw_cons.1 hp
  obtain ⟨v2, vs2, rfl, h2, hp⟩ := pw_cons.1 hp
  rw [pw_nil] at hp; subst hp
  have e2 : v2 = .string (bA sep) := h2.sc_inv
  subst e2
  obtain ⟨a, cap, rfl, c1, c2, c3, vals, g1, g2⟩ := of_sl txP (n := 1) (fun x _ => rfl) h1
  have hmap : (l.map bA).map (·.data.toList) = l := by rw [List.map_map]; conv => rhs; rw [← List.map_id l]
                                                       exact List.map_congr_left (fun x _ => bA_data x)
  by_cases h0 : l.length = 0
  · have : l = [] := List.eq_nil_of_length_eq_zero h0
    subst this
    refine (Any.strings_Join_none laysJoin extraJoin a cap (bA sep) w).mono ?_
    rintro e w' ⟨rfl, rfl⟩
    exact ⟨rfl, Below.refl _ _⟩
  · obtain ⟨b, o, rfl, hbw, hM2, hc⟩ := g2 (by omega)
    have hcells : ∀ (j : Nat) x, (l.map bA)[j]? = some x → w.cell? ⟨b, o + j, none⟩ = some (.string x) := by
      intro j x hx
      have hj : j < l.length := by have := (List.getElem?_eq_some_iff.1 hx).1; simpa using this
      rw [List.getElem?_map, List.getElem?_eq_getElem hj] at hx
      cases hx
      have hv := pw_tx (g1 j hj)
      have := hc j hj 0 (.string (bA l[j])) (by rw [hv]; rfl)
      rw [Nat.mul_one, Nat.add_zero] at this; exact this
    have := Any.strings_Join laysJoin extraJoin b o cap (l.map bA) (bA sep) w hcells hbw (by rw [List.length_map]; omega) (by rw [List.length_map]; omega) (by rw [hmap, bA_data]; omega)
    rw [hmap, bA_data, List.length_map] at this
    exact this


end Go.Proofs.YtjnfldkcbcfboaaDoor
