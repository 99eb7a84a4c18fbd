/-
  Numbers: Sum, added up in two words.
-/
import Derived.Test.YtjlhnlfalomenaaDoorM7
namespace Go.Proofs.YtjlhnlfalomenaaDoor
open Go.RowKit
open Nat (reduceAdd reduceEqDiff reduceLT reduceLeDiff reduceSub reducePow reduceMul)
open Int (reduceToNat reduceLE reduceEq)
set_option linter.unusedVariables false
set_option linter.unusedSimpArgs false
set_option linter.unnecessarySimpa false

def loW (s : Int) : Int := s % 18446744073709551616
def hiW (s : Int) : Int := (s / 18446744073709551616) % 18446744073709551616
theorem wrap_u64 (n : Int) : IntKind.u64.wrap n = n % 18446744073709551616 := by
  simp [IntKind.wrap, IntKind.bits, IntKind.signed]
theorem wrap_i64 (n : Int) : IntKind.i64.wrap n = if n % 18446744073709551616 ≥ 9223372036854775808 then n % 18446744073709551616 - 18446744073709551616 else n % 18446744073709551616 := by
  simp [IntKind.wrap, IntKind.bits, IntKind.signed]
theorem shr63 (n : Int) (h1 : -9223372036854775808 ≤ n) (h2 : n ≤ 9223372036854775807) : n.fdiv (2 ^ 63) = if n < 0 then -1 else 0 := by
  rw [Int.fdiv_eq_ediv_of_nonneg _ (by decide)]
  split <;> omega
theorem loW_add {s n : Int} (h1 : -1125899906842624 ≤ n) (h2 : n ≤ 1125899906842624) : (loW s + IntKind.u64.wrap n + 0) % 18446744073709551616 = loW (s + n) := by
  rw [wrap_u64]; unfold loW; omega
theorem hiW_add {s n : Int} (h1 : -1125899906842624 ≤ n) (h2 : n ≤ 1125899906842624) : (hiW s + IntKind.u64.wrap (n.fdiv (2 ^ 63)) + (loW s + IntKind.u64.wrap n + 0) / 18446744073709551616) % 18446744073709551616 = hiW (s + n) := by
  rw [shr63 n (by omega) (by omega), wrap_u64, wrap_u64]
  unfold hiW loW
  by_cases h : n < 0
  · rw [if_pos h]
    have e : n % 18446744073709551616 = n + 18446744073709551616 := by omega
    rw [e]; omega
  · rw [if_neg h]
    have e : n % 18446744073709551616 = n := by omega
    rw [e]; omega
theorem carry_le {s n : Int} : (loW s + IntKind.u64.wrap n + 0) / 18446744073709551616 ≤ 1 := by
  rw [wrap_u64]; unfold loW; omega
theorem word_end {s : Int} (h1 : -(9223372036854775807 * 1125899906842624) ≤ s) (h2 : s ≤ 9223372036854775807 * 1125899906842624) :
    (hiW s == IntKind.u64.wrap ((IntKind.i64.wrap (loW s)).fdiv (2 ^ 63))) = decide (-9223372036854775808 ≤ s ∧ s ≤ 9223372036854775807) := by
  obtain ⟨q, hq⟩ : ∃ q, s / 18446744073709551616 = q := ⟨_, rfl⟩
  obtain ⟨r, hr⟩ : ∃ r, s % 18446744073709551616 = r := ⟨_, rfl⟩
  have hl : loW s = r := hr
  have hh : hiW s = q % 18446744073709551616 := by unfold hiW; rw [hq]
  have hs : s = q * 18446744073709551616 + r := by omega
  have e : IntKind.i64.wrap r = if r ≥ 9223372036854775808 then r - 18446744073709551616 else r := by
    rw [wrap_i64, show r % 18446744073709551616 = r by omega]
  rw [hl, hh, e, wrap_u64]
  by_cases h : r ≥ 9223372036854775808
  · rw [if_pos h, shr63 _ (by omega) (by omega), if_pos (by omega)]
    by_cases hd : -9223372036854775808 ≤ s ∧ s ≤ 9223372036854775807
    · rw [decide_eq_true hd, beq_iff_eq]; omega
    · rw [decide_eq_false hd, beq_eq_false_iff_ne]; omega
  · rw [if_neg h, shr63 _ (by omega) (by omega), if_neg (by omega)]
    by_cases hd : -9223372036854775808 ≤ s ∧ s ≤ 9223372036854775807
    · rw [decide_eq_true hd, beq_iff_eq]; omega
    · rw [decide_eq_false hd, beq_eq_false_iff_ne]; omega
theorem word_back {s : Int} (h : -9223372036854775808 ≤ s ∧ s ≤ 9223372036854775807) : IntKind.i64.wrap (loW s) = s := by
  rw [wrap_i64]; unfold loW; split <;> omega
theorem word_rng {s : Int} : 0 ≤ hiW s ∧ 0 ≤ loW s := by simp only [hiW, loW]; omega
set_option maxHeartbeats 2000000 in
theorem sum_g (l : List Int) : Good Tryd.prog 18 [intsP l] (totP l) := by
  refine .len (es := l.map intP) (by simp [intsP]) (fun hlen => ?_)
  rw [List.length_map] at hlen
  refine good18 (by simp) ?_
  simp only [ac18, intsP, AW, reduceAdd, reduceCtorEq, reduceEqDiff, ↓reduceIte, reduceLT, reduceLeDiff, reduceSub, reducePow, reduceMul, reduceToNat, reduceLE, reduceEq, Int.reduceLT, Int.reduceBEq, Int.reduceBNe]
  refine run_loop (ι := Nat) (fun k => ⟨[(4, .sc (.int .u64 (hiW (l.take k).sum))), (5, .sc (.int .u64 (loW (l.take k).sum))), (10, .sl (l.map intP)), (11, .sc (.int .i64 (l.length : Int))), (12, .sc (.int .i64 (k : Int)))], [], 7, 47⟩) (fun k => k ≤ l.length ∧ (∀ j (hj : j < l.length), j < k → valB l[j] = true)) (fun k => l.length - k) 7 (fun _ => rfl) 0 (by simp only [LW, Nat.reduceMod, Nat.reduceDiv, Int.natCast_zero, List.take_zero, List.sum_nil, show hiW 0 = 0 from rfl, show loW 0 = 0 from rfl, AW, reduceAdd, reduceCtorEq, reduceEqDiff, ↓reduceIte, reduceLT, reduceLeDiff, reduceSub, reducePow, reduceMul, reduceToNat, reduceLE, reduceEq, Int.reduceLT, Int.reduceBEq, Int.reduceBNe]) ⟨Nat.zero_le _, nofun⟩ (fun k hk => ?_)
  obtain ⟨gk, ik⟩ := hk
  by_cases hltk : k < l.length
  rotate_left
  · have dk : decide ((k : Int) < ((l.length : Nat) : Int)) = false := by rw [decide_eq_false_iff_not]; exact fun h => hltk (Int.ofNat_lt.1 h)
    have ek : k = l.length := Nat.le_antisymm gk (Nat.le_of_not_lt hltk)
    subst ek
    have hall : l.all valB = true := List.all_eq_true.2 (fun x hx => by
      obtain ⟨j, hj, rfl⟩ := List.mem_iff_getElem.1 hx
      exact ik j hj hj)
    have sb := sum_bnd hall l.length (Nat.le_refl _)
    rw [List.take_length] at sb ⊢
    have hlm : (l.length : Int) ≤ 9223372036854775807 := by unfold maxLen at hlen; omega
    have we := word_end (s := l.sum) (by omega) (by omega)
    have gc := checked_g l.sum
    simp only [dk, show min 63 (IntKind.bits .i64) = 63 from rfl, we, AW, reduceAdd, reduceCtorEq, reduceEqDiff, ↓reduceIte, reduceLT, reduceLeDiff, reduceSub, reducePow, reduceMul, reduceToNat, reduceLE, reduceEq, Int.reduceLT, Int.reduceBEq, Int.reduceBNe]
    by_cases hd : -9223372036854775808 ≤ l.sum ∧ l.sum ≤ 9223372036854775807
    · simp only [decide_eq_true hd, word_back hd, AW, reduceAdd, reduceCtorEq, reduceEqDiff, ↓reduceIte, reduceLT, reduceLeDiff, reduceSub, reducePow, reduceMul, reduceToNat, reduceLE, reduceEq, Int.reduceLT, Int.reduceBEq, Int.reduceBNe]
      rw [chkP] at gc
      cases h3 : valB l.sum
      · rw [h3, if_neg (by simp)] at gc
        refine ops_call (gc) (by simp only [intP, AW, reduceAdd, reduceCtorEq, reduceEqDiff, ↓reduceIte, reduceLT, reduceLeDiff, reduceSub, reducePow, reduceMul, reduceToNat, reduceLE, reduceEq, Int.reduceLT, Int.reduceBEq, Int.reduceBNe]) ?_; simp only [intP, AW, reduceAdd, reduceCtorEq, reduceEqDiff, ↓reduceIte, reduceLT, reduceLeDiff, reduceSub, reducePow, reduceMul, reduceToNat, reduceLE, reduceEq, Int.reduceLT, Int.reduceBEq, Int.reduceBNe]
        simp only [totP, hall, chkP, h3, intP, AW, reduceAdd, reduceCtorEq, reduceEqDiff, ↓reduceIte, reduceLT, reduceLeDiff, reduceSub, reducePow, reduceMul, reduceToNat, reduceLE, reduceEq, Int.reduceLT, Int.reduceBEq, Int.reduceBNe]
      · rw [h3, if_pos rfl] at gc
        refine ops_call (gc) (by simp only [intP, AW, reduceAdd, reduceCtorEq, reduceEqDiff, ↓reduceIte, reduceLT, reduceLeDiff, reduceSub, reducePow, reduceMul, reduceToNat, reduceLE, reduceEq, Int.reduceLT, Int.reduceBEq, Int.reduceBNe]) ?_; simp only [intP, AW, reduceAdd, reduceCtorEq, reduceEqDiff, ↓reduceIte, reduceLT, reduceLeDiff, reduceSub, reducePow, reduceMul, reduceToNat, reduceLE, reduceEq, Int.reduceLT, Int.reduceBEq, Int.reduceBNe]
        simp only [totP, hall, chkP, h3, intP, AW, reduceAdd, reduceCtorEq, reduceEqDiff, ↓reduceIte, reduceLT, reduceLeDiff, reduceSub, reducePow, reduceMul, reduceToNat, reduceLE, reduceEq, Int.reduceLT, Int.reduceBEq, Int.reduceBNe]
    · have h3 : valB l.sum = false := by
        rw [Bool.eq_false_iff]; intro h4
        exact hd ⟨by have := valB_iff.1 h4; omega, by have := valB_iff.1 h4; omega⟩
      simp only [decide_eq_false hd, totP, hall, chkP, h3, intP, AW, reduceAdd, reduceCtorEq, reduceEqDiff, ↓reduceIte, reduceLT, reduceLeDiff, reduceSub, reducePow, reduceMul, reduceToNat, reduceLE, reduceEq, Int.reduceLT, Int.reduceBEq, Int.reduceBNe]
  have dk : decide ((k : Int) < ((l.length : Nat) : Int)) = true := by rw [decide_eq_true_eq]; exact Int.ofNat_lt.2 hltk
  have gv := valid_g l[k]
  simp only [dk, List.length_map, map_getD hltk, hltk, intP, AW, reduceAdd, reduceCtorEq, reduceEqDiff, ↓reduceIte, reduceLT, reduceLeDiff, reduceSub, reducePow, reduceMul, reduceToNat, reduceLE, reduceEq, Int.reduceLT, Int.reduceBEq, Int.reduceBNe]
  refine ops_call (gv) (by simp only [intP, AW, reduceAdd, reduceCtorEq, reduceEqDiff, ↓reduceIte, reduceLT, reduceLeDiff, reduceSub, reducePow, reduceMul, reduceToNat, reduceLE, reduceEq, Int.reduceLT, Int.reduceBEq, Int.reduceBNe]) ?_; simp only [intP, AW, reduceAdd, reduceCtorEq, reduceEqDiff, ↓reduceIte, reduceLT, reduceLeDiff, reduceSub, reducePow, reduceMul, reduceToNat, reduceLE, reduceEq, Int.reduceLT, Int.reduceBEq, Int.reduceBNe]
  cases h : valB l[k]
  · simp only [totP, tot_no hltk h, intP, AW, reduceAdd, reduceCtorEq, reduceEqDiff, ↓reduceIte, reduceLT, reduceLeDiff, reduceSub, reducePow, reduceMul, reduceToNat, reduceLE, reduceEq, Int.reduceLT, Int.reduceBEq, Int.reduceBNe]
  have hv := valB_iff.1 h
  have es : (l.take (k + 1)).sum = (l.take k).sum + l[k] := by rw [List.take_succ_eq_append_getElem hltk, List.sum_append]; simp
  have w1 := loW_add (s := (l.take k).sum) hv.1 hv.2
  have w2 := hiW_add (s := (l.take k).sum) hv.1 hv.2
  have w3 := carry_le (s := (l.take k).sum) (n := l[k])
  rw [← es] at w1 w2
  simp only [w1, w2, w3, show min 63 (IntKind.bits .i64) = 63 from rfl, AW, reduceAdd, reduceCtorEq, reduceEqDiff, ↓reduceIte, reduceLT, reduceLeDiff, reduceSub, reducePow, reduceMul, reduceToNat, reduceLE, reduceEq, Int.reduceLT, Int.reduceBEq, Int.reduceBNe]
  (try simp only [wrap_succ hltk hlen, AW, reduceAdd, reduceCtorEq, reduceEqDiff, ↓reduceIte, reduceLT, reduceLeDiff, reduceSub, reducePow, reduceMul, reduceToNat, reduceLE, reduceEq, Int.reduceLT, Int.reduceBEq, Int.reduceBNe])
  refine ⟨k + 1, ⟨hltk, fun j hj hjk => ?_⟩, ?_, meas_lt hltk⟩
  · by_cases e : j = k
    · subst e; exact h
    · exact ik j hj (by omega)
  · simp only [LW, Nat.reduceMod, Nat.reduceDiv, AW, reduceAdd, reduceCtorEq, reduceEqDiff, ↓reduceIte, reduceLT, reduceLeDiff, reduceSub, reducePow, reduceMul, reduceToNat, reduceLE, reduceEq, Int.reduceLT, Int.reduceBEq, Int.reduceBNe]


end Go.Proofs.YtjlhnlfalomenaaDoor
