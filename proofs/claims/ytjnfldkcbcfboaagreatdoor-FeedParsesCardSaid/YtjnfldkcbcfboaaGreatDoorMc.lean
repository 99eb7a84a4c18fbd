/-
  Numbers: Parse of both: what they compute.
-/
import Derived.Test.YtjnfldkcbcfboaaGreatDoorMb
import Derived.Lib.AtoiAllCases
namespace Go.Proofs.YtjnfldkcbcfboaaGreatDoor
open Go.RowKit
open Nat (reduceAdd reduceEqDiff reduceLT reduceLeDiff reduceSub reducePow reduceMul)
open Int (reduceToNat reduceLE reduceEq)
set_option linter.unusedVariables false
set_option linter.unusedSimpArgs false
set_option linter.unnecessarySimpa false


open Go.Lib (atoiAll parseUint10 parseMag signless signed)
theorem dg_nat (m j : Nat) : (Lib.dg m j).toNat = 48 + m / 10 ^ j % 10 := by
  have : m / 10 ^ j % 10 < 10 := Nat.mod_lt _ (by decide)
  unfold Lib.dg
  rw [UInt8.toNat_ofNat', Nat.mod_eq_of_lt (by omega)]
theorem div_step (m j : Nat) : m / 10 ^ (j + 1) * 10 + m / 10 ^ j % 10 = m / 10 ^ j := by
  rw [Nat.pow_succ, ← Nat.div_div_eq_div_mul]; omega
theorem parse_suf {m : Nat} (hm : m ≤ 1125899906842624) : ∀ j, parseUint10 (m / 10 ^ j) (sufL m j) = .ok m
  | 0 => by simp [sufL, parseUint10]
  | j + 1 => by
    have hd := dg_nat m j
    have hs := div_step m j
    have h9 : m / 10 ^ j % 10 < 10 := Nat.mod_lt _ (by decide)
    have hl : m / 10 ^ j ≤ m := Nat.div_le_self _ _
    rw [sufL, parseUint10, if_pos (by omega), if_neg (by omega), if_neg (by omega), hd, show m / 10 ^ (j + 1) * 10 + (48 + m / 10 ^ j % 10 - 48) = m / 10 ^ j by omega]
    exact parse_suf hm j
theorem div_top {m L : Nat} (h : Lib.nDigits m ≤ L) : m / 10 ^ L = 0 :=
  Nat.div_eq_of_lt (Nat.lt_of_lt_of_le (Lib.lt_pow_nDigits m) (Nat.pow_le_pow_right (by decide) h))
theorem parse_pad {m k : Nat} (hm : m ≤ 1125899906842624) (hk : 1 ≤ k) : parseMag (padL m k) = .ok m := by
  have h1 := (padL_len m k).1
  unfold parseMag
  rw [if_neg (by intro h; rw [h] at h1; simp at h1; omega), padL_suf]
  have := parse_suf hm (max k (Lib.nDigits m))
  rw [div_top (by omega)] at this; exact this
theorem pad_head {m k : Nat} (hk : 1 ≤ k) : ∃ c r, padL m k = c :: r ∧ 48 ≤ c.toNat ∧ c.toNat ≤ 57 := by
  rw [padL_suf]
  obtain ⟨j, hj⟩ : ∃ j, max k (Lib.nDigits m) = j + 1 := ⟨max k (Lib.nDigits m) - 1, by omega⟩
  rw [hj, sufL]
  have h9 : m / 10 ^ j % 10 < 10 := Nat.mod_lt _ (by decide)
  exact ⟨_, _, rfl, by rw [dg_nat]; omega, by rw [dg_nat]; omega⟩
/-- A text without its point. -/
def undot (s : List UInt8) (p : Nat) : List UInt8 := if 0 < p ∧ p + 1 ≤ s.length then s.take (s.length - p - 1) ++ s.drop (s.length - p) else s
def sgn (n : Int) : List UInt8 := if n < 0 then [45] else []
theorem fmtL_eq (n : Int) (p : Nat) : fmtL n p = sgn n ++ dotL (padL n.natAbs (p + 1)) p := by
  unfold fmtL sgn; split <;> rfl
theorem undot_fmt (n : Int) (p : Nat) : undot (fmtL n p) p = sgn n ++ padL n.natAbs (p + 1) := by
  rw [fmtL_eq]
  have hl := (padL_len n.natAbs (p + 1)).1
  generalize padL n.natAbs (p + 1) = d at *
  generalize sgn n = sg
  unfold undot dotL
  by_cases hp : p = 0
  · rw [if_pos hp, if_neg (by omega)]
  · rw [if_neg hp]
    have tk : (d.take (d.length - p)).length = d.length - p := by rw [List.length_take]; omega
    have dr : (d.drop (d.length - p)).length = p := by rw [List.length_drop]; omega
    have hlen : (sg ++ (d.take (d.length - p) ++ [46] ++ d.drop (d.length - p))).length = sg.length + (d.length - p) + 1 + p := by
      simp only [List.length_append, tk, dr, List.length_cons, List.length_nil]; omega
    rw [if_pos (by rw [hlen]; omega), hlen]
    have e1 : (sg ++ (d.take (d.length - p) ++ [46] ++ d.drop (d.length - p))).take (sg.length + (d.length - p) + 1 + p - p - 1) = sg ++ d.take (d.length - p) := by
      rw [show sg.length + (d.length - p) + 1 + p - p - 1 = (sg ++ d.take (d.length - p)).length by rw [List.length_append, tk]; omega, ← List.append_assoc, ← List.append_assoc, List.append_assoc (sg ++ d.take (d.length - p)), List.take_left]
    have e2 : (sg ++ (d.take (d.length - p) ++ [46] ++ d.drop (d.length - p))).drop (sg.length + (d.length - p) + 1 + p - p) = d.drop (d.length - p) := by
      rw [show sg.length + (d.length - p) + 1 + p - p = (sg ++ (d.take (d.length - p) ++ [46])).length by simp only [List.length_append, tk, List.length_cons, List.length_nil]; omega, show sg ++ (d.take (d.length - p) ++ [46] ++ d.drop (d.length - p)) = (sg ++ (d.take (d.length - p) ++ [46])) ++ d.drop (d.length - p) by simp only [List.append_assoc], List.drop_left]
    rw [e1, e2, List.append_assoc, List.take_append_drop]
theorem atoi_fmt {n : Int} (p : Nat) (h : valB n = true) : atoiAll (undot (fmtL n p) p) = .ok n := by
  have hv := valB_iff.1 h
  have hp := parse_pad (m := n.natAbs) (k := p + 1) (by omega) (by omega)
  rw [undot_fmt]
  unfold sgn
  by_cases hn : n < 0
  · rw [if_pos hn]
    rw [show [45] ++ padL n.natAbs (p + 1) = 45 :: padL n.natAbs (p + 1) from rfl, Lib.atoiAll_minus, hp]
    unfold signed
    simp only
    rw [if_neg (by omega)]
    congr 1; omega
  · rw [if_neg hn]
    obtain ⟨c, r, hc, c1, c2⟩ := pad_head (m := n.natAbs) (k := p + 1) (by omega)
    rw [List.nil_append]
    rw [hc] at hp ⊢
    rw [Lib.atoiAll_plain c r (by omega) (by omega), hp]
    unfold signless
    simp only
    rw [if_neg (by omega)]
    congr 1; omega
/-- The number whose text is s. -/
def parN (s : List UInt8) (p : Nat) : Option Int := match atoiAll (undot s p) with
  | .ok n => if valB n = true ∧ fmtL n p = s then some n else none
  | _ => none
theorem parN_iff {s : List UInt8} {p : Nat} {n : Int} : parN s p = some n ↔ valB n = true ∧ fmtL n p = s := by
  unfold parN
  constructor
  · intro h
    split at h
    · split at h
      · cases h; assumption
      · cases h
    · cases h
  · rintro ⟨h1, h2⟩
    have := atoi_fmt p h1
    rw [h2] at this
    rw [this]; simp only
    rw [if_pos ⟨h1, h2⟩]
def parR : Option Int → PV
  | some n => .tup [intP n, intP 0]
  | none => .tup [intP 0, intP 3]
def parP (s : List UInt8) (p : Int) : PV := if 0 ≤ p ∧ p ≤ 6 then parR (parN s p.toNat) else .tup [intP 0, intP 1]
/-- The number that the digits of a text spell, whatever else stands in it. -/
def rvF (a : Nat) (c : UInt8) : Nat := if 48 ≤ c.toNat ∧ c.toNat ≤ 57 then 10 * a + (c.toNat - 48) else a
def rvL (s : List UInt8) : Nat := s.foldl rvF 0
theorem rv_suf {m : Nat} : ∀ j, (sufL m j).foldl rvF (m / 10 ^ j) = m
  | 0 => by simp [sufL]
  | j + 1 => by
    have hd := dg_nat m j
    have hs := div_step m j
    have h9 : m / 10 ^ j % 10 < 10 := Nat.mod_lt _ (by decide)
    rw [sufL, List.foldl_cons, rvF, if_pos (by omega), hd, show 10 * (m / 10 ^ (j + 1)) + (48 + m / 10 ^ j % 10 - 48) = m / 10 ^ j by omega]
    exact rv_suf j
theorem rv_fmt (n : Int) (p : Nat) : rvL (fmtL n p) = n.natAbs := by
  have hd : (padL n.natAbs (p + 1)).foldl rvF 0 = n.natAbs := by
    rw [padL_suf]
    have := rv_suf (m := n.natAbs) (max (p + 1) (Lib.nDigits n.natAbs))
    rw [div_top (by omega)] at this; exact this
  have h45 : ∀ a, rvF a 45 = a := fun a => if_neg (by decide)
  have h46 : ∀ a, rvF a 46 = a := fun a => if_neg (by decide)
  have hdot : (dotL (padL n.natAbs (p + 1)) p).foldl rvF 0 = n.natAbs := by
    unfold dotL
    split
    · exact hd
    · rw [List.foldl_append, List.foldl_append, List.foldl_cons, List.foldl_nil, h46, ← List.foldl_append, List.take_append_drop]; exact hd
  rw [rvL, fmtL_eq, List.foldl_append]
  unfold sgn
  split
  · rw [List.foldl_cons, List.foldl_nil, h45]; exact hdot
  · exact hdot
theorem fmt_len {n : Int} {p : Nat} (h : valB n = true) (hp : p ≤ 6) : 1 ≤ (fmtL n p).length ∧ (fmtL n p).length ≤ 18 := by
  have h1 := padL_len n.natAbs (p + 1)
  have h2 := digits_len h
  rw [fmtL_eq]
  have h3 : (sgn n).length ≤ 1 := by unfold sgn; split <;> simp
  rw [List.length_append]
  unfold dotL
  split
  · omega
  · simp only [List.length_append, List.length_take, List.length_drop, List.length_cons, List.length_nil]; omega
theorem fmt_head {n : Int} (p : Nat) : ((fmtL n p).head? = some 45) ↔ n < 0 := by
  rw [fmtL_eq]
  unfold sgn
  split
  · rename_i h; simp [h]
  · rename_i h
    obtain ⟨c, r, hc, c1, c2⟩ := pad_head (m := n.natAbs) (k := p + 1) (by omega)
    have hd : (dotL (padL n.natAbs (p + 1)) p).head? = some c := by
      have hl := (padL_len n.natAbs (p + 1)).1
      unfold dotL
      split
      · rw [hc]; rfl
      · rw [hc] at hl ⊢
        rw [List.length_cons] at hl
        obtain ⟨q, hq⟩ : ∃ q, (c :: r).length - p = q + 1 := ⟨(c :: r).length - p - 1, by rw [List.length_cons]; omega⟩
        rw [hq]; rfl
    rw [List.nil_append, hd]
    constructor
    · intro e; cases e; exact absurd c1 (by decide)
    · intro e; exact absurd e h
/-- The number that the reference tries. -/
def refN (s : List UInt8) : Int := if s.head? = some 45 then -(rvL s : Int) else (rvL s : Int)
theorem refN_fmt {n : Int} (p : Nat) : refN (fmtL n p) = n := by
  unfold refN
  rw [rv_fmt]
  by_cases h : n < 0
  · rw [if_pos ((fmt_head p).2 h)]; omega
  · rw [if_neg (fun e => h ((fmt_head p).1 e))]; omega
theorem ref_par {s : List UInt8} {p : Nat} (hp : p ≤ 6) : (if s.length ≤ 18 ∧ valB (refN s) = true ∧ fmtL (refN s) p = s then some (refN s) else none) = parN s p := by
  cases h : parN s p with
  | some n =>
    obtain ⟨h1, h2⟩ := parN_iff.1 h
    have h3 := refN_fmt (n := n) p
    rw [h2] at h3
    rw [h3, if_pos ⟨by rw [← h2]; exact (fmt_len h1 hp).2, h1, h2⟩]
  | none =>
    rw [if_neg]
    rintro ⟨_, h1, h2⟩
    have := parN_iff.2 ⟨h1, h2⟩
    rw [h] at this; cases this


end Go.Proofs.YtjnfldkcbcfboaaGreatDoor
