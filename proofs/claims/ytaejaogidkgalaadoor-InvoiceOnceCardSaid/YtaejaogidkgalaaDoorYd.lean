/-
  strings.Join by the shelf's contract.
-/
import Derived.Test.YtaejaogidkgalaaDoorYa
import Derived.Shelf.Strings.OnBuilder
namespace Go.Proofs.YtaejaogidkgalaaDoor
open Go.RowKit
open Nat (reduceAdd reduceEqDiff reduceLT reduceLeDiff reduceSub reducePow reduceMul)
open Int (reduceToNat reduceLE reduceEq)
set_option linter.unusedVariables false
set_option linter.unusedSimpArgs false
set_option linter.unnecessarySimpa false

open Go.Shelf
def laysJoin_ren : Go.Shelf.Ren := ⟨fun | 156 => 51 | 165 => 56 | 166 => 57 | 169 => 58 | 240 => 68 | 241 => 69 | 276 => 78 | 277 => 79 | n => n, fun | 31 => 39 | 9 => 9 | 3 => 3 | 4 => 4 | 0 => 0 | 20 => 20 | 72 => 98 | 76 => 102 | 70 => 96 | 37 => 91 | 75 => 101 | 127 => 122 | 164 => 134 | 5 => 5 | 80 => 104 | n => n, fun n => n⟩
theorem laysJoin : Lays.n156 Tryd.prog laysJoin_ren := {
  mixed := by kernel_rfl
  f156 := Tryd.func51.trans (congrArg some (by kernel_rfl))
  f165 := Tryd.func56.trans (congrArg some (by kernel_rfl))
  f166 := Tryd.func57.trans (congrArg some (by kernel_rfl))
  f169 := Tryd.func58.trans (congrArg some (by kernel_rfl))
  f240 := Tryd.func68.trans (congrArg some (by kernel_rfl))
  f241 := Tryd.func69.trans (congrArg some (by kernel_rfl))
  f276 := Tryd.func78.trans (congrArg some (by kernel_rfl))
  f277 := Tryd.func79.trans (congrArg some (by kernel_rfl))
  t0 := Tryd.underlying0
  a0 := Tryd.isAgg0
  z0 := Tryd.sizeOf0
  v0 := Tryd.zeroValue0
  t3 := Tryd.underlying3
  a3 := Tryd.isAgg3
  z3 := Tryd.sizeOf3
  v3 := Tryd.zeroValue3
  t4 := Tryd.underlying4
  a4 := Tryd.isAgg4
  z4 := Tryd.sizeOf4
  v4 := Tryd.zeroValue4
  t9 := Tryd.underlying9
  a9 := Tryd.isAgg9
  z9 := Tryd.sizeOf9
  v9 := Tryd.zeroValue9
  t20 := Tryd.underlying20
  a20 := Tryd.isAgg20
  z20 := Tryd.sizeOf20
  v20 := Tryd.zeroValue20
  t31 := Tryd.underlying39
  a31 := Tryd.isAgg39
  z31 := Tryd.sizeOf39
  v31 := Tryd.zeroValue39
  t37 := Tryd.underlying91
  a37 := Tryd.isAgg91
  z37 := Tryd.sizeOf91
  v37 := Tryd.zeroValue91
  t70 := Tryd.underlying96
  a70 := Tryd.isAgg96
  z70 := Tryd.sizeOf96
  v70 := Tryd.zeroValue96
  t72 := Tryd.underlying98
  a72 := Tryd.isAgg98
  z72 := Tryd.sizeOf98
  v72 := Tryd.zeroValue98
  t75 := Tryd.underlying101
  a75 := Tryd.isAgg101
  z75 := Tryd.sizeOf101
  v75 := Tryd.zeroValue101
  t76 := Tryd.underlying102
  a76 := Tryd.isAgg102
  z76 := Tryd.sizeOf102
  v76 := Tryd.zeroValue102
  t127 := Tryd.underlying122
  a127 := Tryd.isAgg122
  z127 := Tryd.sizeOf122
  v127 := Tryd.zeroValue122
  t164 := Tryd.underlying134
  a164 := Tryd.isAgg134
  z164 := Tryd.sizeOf134
  v164 := Tryd.zeroValue134 }

theorem extraJoin : Builder.Extra Tryd.prog laysJoin_ren where
  sizeBuilder := by kernel_rfl
  liesBuilder := by kernel_rfl
  t5 := Tryd.underlying5
  a5 := Tryd.isAgg5
  z5 := Tryd.sizeOf5
  v5 := Tryd.zeroValue5
  infoByte := by kernel_rfl
  cellsByte := by kernel_rfl
  sizeByte := by kernel_rfl
  neB5 := by decide
theorem pw_tx {M : Nat → Prop} {w : World} {s : List UInt8} {vs : List Value} (h : Pw (RepI M w) [txP s] vs) : vs = [.string (bA s)] := by
  obtain ⟨v, vs', rfl, h1, h2⟩ := pw_cons.1 h
  rw [pw_nil] at h2; subst h2
  rw [h1.sc_inv]
theorem join_g (l : List (List UInt8)) (sep : List UInt8) (hl : l.length ≤ 1000000) (hb : (Lib.join l sep).length ≤ 1000000000) : Good Tryd.prog 51 [.sl (l.map txP), txP sep] (txP (Lib.join l sep)) := by
  refine .of_ret (rng_str.2 (by omega)) (fun M w vs hM hp hG => ?_)
  obtain ⟨v1, vs1, rfl, h1, hp⟩ := pw_cons.1 hp
  obtain ⟨v2, vs2, rfl, h2, hp⟩ := pw_cons.1 hp
  rw [pw_nil] at hp; subst hp
  have e2 : v2 = .string (bA sep) := h2.sc_inv
  subst e2
  obtain ⟨a, cap, rfl, c1, c2, c3, vals, g1, g2⟩ := of_sl txP (n := 1) (fun x _ => rfl) h1
  have hmap : (l.map bA).map (·.data.toList) = l := by rw [List.map_map]; conv => rhs; rw [← List.map_id l]
                                                       exact List.map_congr_left (fun x _ => bA_data x)
  by_cases h0 : l.length = 0
  · have : l = [] := List.eq_nil_of_length_eq_zero h0
    subst this
    refine (Any.strings_Join_none laysJoin extraJoin a cap (bA sep) w).mono ?_
    rintro e w' ⟨rfl, rfl⟩
    exact ⟨rfl, Below.refl _ _⟩
  · obtain ⟨b, o, rfl, hbw, hM2, hc⟩ := g2 (by omega)
    have hcells : ∀ (j : Nat) x, (l.map bA)[j]? = some x → w.cell? ⟨b, o + j, none⟩ = some (.string x) := by
      intro j x hx
      have hj : j < l.length := by have := (List.getElem?_eq_some_iff.1 hx).1; simpa using this
      rw [List.getElem?_map, List.getElem?_eq_getElem hj] at hx
      cases hx
      have hv := pw_tx (g1 j hj)
      have := hc j hj 0 (.string (bA l[j])) (by rw [hv]; rfl)
      rw [Nat.mul_one, Nat.add_zero] at this; exact this
    have := Any.strings_Join laysJoin extraJoin b o cap (l.map bA) (bA sep) w hcells hbw (by rw [List.length_map]; omega) (by rw [List.length_map]; omega) (by rw [hmap, bA_data]; omega)
    rw [hmap, bA_data, List.length_map] at this
    exact this


end Go.Proofs.YtaejaogidkgalaaDoor
