/-
  Releases: the lines of one, in plain Lean.
-/
import Derived.Test.YtjnfldkcbcfboaaGreatDoorF3
namespace Go.Proofs.YtjnfldkcbcfboaaGreatDoor
open Go.RowKit
open Nat (reduceAdd reduceEqDiff reduceLT reduceLeDiff reduceSub reducePow reduceMul)
open Int (reduceToNat reduceLE reduceEq)
set_option linter.unusedVariables false
set_option linter.unusedSimpArgs false
set_option linter.unnecessarySimpa false


def tTrips : List UInt8 := [116, 114, 105, 112, 115]
theorem btTrips : (⟨#[116, 114, 105, 112, 115]⟩ : ByteArray) = bA tTrips := rfl
theorem ltTrips : tTrips.length = 5 := rfl
def tRow : List UInt8 := [114, 111, 119]
theorem btRow : (⟨#[114, 111, 119]⟩ : ByteArray) = bA tRow := rfl
theorem ltRow : tRow.length = 3 := rfl
def tNoise : List UInt8 := [110, 111, 105, 115, 101]
theorem btNoise : (⟨#[110, 111, 105, 115, 101]⟩ : ByteArray) = bA tNoise := rfl
theorem ltNoise : tNoise.length = 5 := rfl
def tSums : List UInt8 := [115, 117, 109, 115]
theorem btSums : (⟨#[115, 117, 109, 115]⟩ : ByteArray) = bA tSums := rfl
theorem ltSums : tSums.length = 4 := rfl
def tX : List UInt8 := [120]
theorem btX : (⟨#[120]⟩ : ByteArray) = bA tX := rfl
theorem ltX : tX.length = 1 := rfl
def cellW (r : RelS) (k : Nat) : List UInt8 := if (!noisyB r && r.hidden.getD k false) = true then tX else dec (r.table.cells.getD k 0)
def rowWs (r : RelS) (i c : Nat) : List (List UInt8) := (List.range c).map fun j => cellW r (i * r.table.cols.toNat + j)
def rowE (r : RelS) (i : Nat) : List (List UInt8) := if noisyB r = true then [] else [dec (r.rowSums.getD i 0)]
def rwL (r : RelS) (i : Nat) : List UInt8 := wordsL tRow (rowWs r i r.table.cols.toNat ++ rowE r i)
def headI (r : RelS) : List Int := [r.when_.from_, r.when_.to_, r.each, r.table.rows, r.table.cols]
def rowsT (r : RelS) (n : Nat) : List (List UInt8) := (List.range n).map (rwL r)
def lastT (r : RelS) : List UInt8 := if noisyB r = true then lineT tNoise r.noise.weights else lineT tSums r.colSums
def linesX (r : RelS) : List (List UInt8) := (lineT tTrips (headI r) :: rowsT r r.table.rows.toNat) ++ [lastT r]
theorem rowWs_succ (r : RelS) (i c : Nat) : rowWs r i (c + 1) = rowWs r i c ++ [cellW r (i * r.table.cols.toNat + c)] := by
  unfold rowWs; rw [List.range_succ, List.map_append]; rfl
theorem rowWs_len (r : RelS) (i c : Nat) : (rowWs r i c).length = c := by unfold rowWs; simp
theorem rowsT_succ (r : RelS) (n : Nat) : rowsT r (n + 1) = rowsT r n ++ [rwL r n] := by
  unfold rowsT; rw [List.range_succ, List.map_append]; rfl
theorem rowsT_len (r : RelS) (n : Nat) : (rowsT r n).length = n := by unfold rowsT; simp
structure OkR (r : RelS) (R C : Nat) : Prop where
  rows : r.table.rows = (R : Int)
  cols : r.table.cols = (C : Int)
  r1 : 1 ≤ R
  r8 : R ≤ 8
  c1 : 1 ≤ C
  c8 : C ≤ 8
  cells : r.table.cells.length = R * C
  cell : ∀ x ∈ r.table.cells, -1000000 ≤ x ∧ x ≤ 1000000
  from0 : 0 ≤ r.when_.from_
  fromto : r.when_.from_ ≤ r.when_.to_
  to_ : r.when_.to_ ≤ 4294944000
  each1 : 1 ≤ r.each
  each2 : r.each ≤ 256
  noi : noisyB r = true → r.noise.weights.length ≤ 33 ∧ (∀ x ∈ r.noise.weights, 1 ≤ x ∧ x ≤ 16777216) ∧ r.hidden = [] ∧ r.rowSums = [] ∧ r.colSums = []
  pla : noisyB r = false → r.hidden.length = R * C ∧ r.rowSums.length = R ∧ r.colSums.length = C ∧ (∀ x ∈ r.rowSums, 0 ≤ x ∧ x ≤ 65536) ∧ (∀ x ∈ r.colSums, 0 ≤ x ∧ x ≤ 65536) ∧ (∀ k, k < R * C → r.hidden.getD k false = true → r.table.cells.getD k 0 = 0) ∧ r.noise.weights = []
theorem inB_iff {n lo hi : Int} : inB n lo hi = true ↔ lo ≤ n ∧ n ≤ hi := by simp [inB]
theorem ok_of {r : RelS} (h : checkR r = 0) : ∃ R C, OkR r R C := by
  unfold checkR at h
  split at h
  · cases h
  rename_i hh
  split at h
  · rename_i h1; exact absurd h h1
  rename_i ht
  have ht := Decidable.not_not.1 ht
  have hh : headB r = true := by simpa using hh
  unfold headB at hh
  simp only [Bool.not_eq_true', Bool.or_eq_false_iff, decide_eq_false_iff_not, Bool.not_eq_false', inB_iff] at hh
  obtain ⟨⟨⟨a1, a2⟩, a3⟩, a4⟩ := hh
  unfold tabE at ht
  split at ht
  · cases ht
  rename_i hrc
  split at ht
  · cases ht
  rename_i hcl
  split at ht
  rotate_left
  · cases ht
  rename_i hce
  obtain ⟨b1, b2, b3, b4⟩ := rc_iff.1 (show rcB r.table = true by simpa using hrc)
  have hcl := Decidable.not_not.1 hcl
  obtain ⟨R, hR⟩ : ∃ R : Nat, r.table.rows = (R : Int) := ⟨r.table.rows.toNat, by omega⟩
  obtain ⟨C, hC⟩ : ∃ C : Nat, r.table.cols = (C : Int) := ⟨r.table.cols.toNat, by omega⟩
  rw [hR, hC] at hcl
  have hcl2 : r.table.cells.length = R * C := by
    have : ((R * C : Nat) : Int) = (R : Int) * (C : Int) := Int.natCast_mul R C
    omega
  refine ⟨R, C, ⟨hR, hC, by omega, by omega, by omega, by omega, hcl2, fun x hx => inB_iff.1 (List.all_eq_true.1 hce x hx), by omega, by omega, by omega, a4.1, a4.2, fun hn => ?_, fun hn => ?_⟩⟩
  · rw [if_pos hn] at h
    split at h
    · rename_i h1; exact absurd h h1
    rename_i hw
    have hw := Decidable.not_not.1 hw
    split at h
    · cases h
    rename_i hs
    unfold noiE at hw
    split at hw
    · cases hw
    rename_i hl
    split at hw
    rotate_left
    · cases hw
    rename_i hnb
    refine ⟨by omega, fun x hx => ?_, List.eq_nil_of_length_eq_zero (by omega), List.eq_nil_of_length_eq_zero (by omega), List.eq_nil_of_length_eq_zero (by omega)⟩
    obtain ⟨j, hj, rfl⟩ := List.getElem_of_mem hx
    have := List.all_eq_true.1 hnb j (List.mem_range.2 hj)
    unfold wtB at this
    rw [Bool.and_eq_true, getD_get hj] at this
    exact inB_iff.1 this.1
  · rw [if_neg (by rw [hn]; decide)] at h
    split at h
    rotate_left
    · cases h
    rename_i hc
    unfold compB at hc
    simp only [Bool.and_eq_true, decide_eq_true_eq] at hc
    obtain ⟨⟨⟨c1, c2⟩, c3⟩, c4⟩ := hc
    unfold sumsB at c2 c3
    simp only [Bool.and_eq_true, decide_eq_true_eq, List.all_eq_true, inB_iff] at c2 c3
    refine ⟨by omega, by omega, by omega, c2.2, c3.2, fun k hk hh => ?_, ?_⟩
    · have := List.all_eq_true.1 c4 k (List.mem_range.2 (by omega))
      rw [hh] at this
      simpa using this
    · have : ¬ 0 < r.noise.weights.length := by
        have := of_decide_eq_false (show decide (0 < r.noise.weights.length) = false from hn); exact this
      exact List.eq_nil_of_length_eq_zero (by omega)
theorem mem_getD {l : List Int} {k : Nat} (h : k < l.length) : l.getD k 0 ∈ l := by rw [getD_get h]; exact List.getElem_mem h
theorem cellW_len {r : RelS} {R C : Nat} (h : OkR r R C) {k : Nat} (hk : k < R * C) : (cellW r k).length ≤ 20 := by
  unfold cellW
  split
  · decide
  · have := h.cell _ (mem_getD (l := r.table.cells) (k := k) (by rw [h.cells]; exact hk))
    exact dec_len ⟨by omega, by omega⟩
theorem cell_lt {R C i j : Nat} (hi : i < R) (hj : j < C) : i * C + j < R * C := by
  have h1 : (i + 1) * C ≤ R * C := Nat.mul_le_mul_right C hi
  rw [Nat.add_mul] at h1; omega
theorem OkR.colN {r : RelS} {R C : Nat} (h : OkR r R C) : r.table.cols.toNat = C := by rw [h.cols]; rfl
theorem OkR.rowN {r : RelS} {R C : Nat} (h : OkR r R C) : r.table.rows.toNat = R := by rw [h.rows]; rfl
theorem words_len {r : RelS} {R C : Nat} (h : OkR r R C) {i : Nat} (hi : i < R) : ∀ x ∈ rowWs r i C ++ rowE r i, x.length ≤ 20 := by
  intro x hx
  rcases List.mem_append.1 hx with hx | hx
  · unfold rowWs at hx
    obtain ⟨j, hj, rfl⟩ := List.mem_map.1 hx
    rw [h.colN]
    exact cellW_len h (cell_lt hi (List.mem_range.1 hj))
  · unfold rowE at hx
    split at hx
    · cases hx
    · rename_i hn
      simp only [List.mem_singleton] at hx
      subst hx
      obtain ⟨_, p2, _, p4, _⟩ := h.pla (by simpa using hn)
      have := p4 _ (mem_getD (l := r.rowSums) (k := i) (by omega))
      exact dec_len ⟨by omega, by omega⟩
theorem rowE_len (r : RelS) (i : Nat) : (rowE r i).length ≤ 1 := by unfold rowE; split <;> simp
theorem rwL_len {r : RelS} {R C : Nat} (h : OkR r R C) {i : Nat} (hi : i < R) : (rwL r i).length ≤ 200 := by
  unfold rwL
  rw [h.colN]
  have h1 := wordsL_len (w := tRow) (words_len h hi)
  rw [List.length_append, rowWs_len] at h1
  have := rowE_len r i
  have := h.c8
  have : tRow.length = 3 := rfl
  omega


end Go.Proofs.YtjnfldkcbcfboaaGreatDoor
