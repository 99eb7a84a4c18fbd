/-
  Releases: lines, in plain Lean; a word and numbers.
-/
import Derived.Test.YtjnfldkcbcfboaaGreatDoorF2
import Derived.Lib.Join
namespace Go.Proofs.YtjnfldkcbcfboaaGreatDoor
open Go.RowKit
open Nat (reduceAdd reduceEqDiff reduceLT reduceLeDiff reduceSub reducePow reduceMul)
open Int (reduceToNat reduceLE reduceEq)
set_option linter.unusedVariables false
set_option linter.unusedSimpArgs false
set_option linter.unnecessarySimpa false


def dec (n : Int) : List UInt8 := Lib.itoa n
theorem fmt0 (n : Int) : fmtL n 0 = dec n := by
  have h1 : padL n.natAbs 1 = Lib.decDigits n.natAbs := by
    unfold padL
    have := Lib.nDigits_pos n.natAbs
    rw [Lib.decDigits_length, show 1 - Lib.nDigits n.natAbs = 0 by omega]; rfl
  unfold fmtL dotL dec Lib.itoa
  rw [h1, if_pos rfl]
  by_cases h : n < 0
  · rw [if_pos h, if_pos h]; rfl
  · rw [if_neg h, if_neg h, show n.toNat = n.natAbs by omega]
/-- What the reference writes. -/
def decL (n : Int) : List UInt8 := if valB n = true then dec n else []
theorem decL_len (n : Int) : (decL n).length ≤ 18 := by
  unfold decL; split
  · rename_i h; rw [← fmt0]; exact (fmt_len h (by decide)).2
  · simp
theorem dec_len {n : Int} (h : I64 n) : (dec n).length ≤ 20 := itoa_len h
theorem dec_val {n : Int} (h : valB n = true) : decL n = dec n := if_pos h
def wordsL (w : List UInt8) (l : List (List UInt8)) : List UInt8 := w ++ l.flatMap (fun x => 32 :: x)
theorem join_words (w : List UInt8) (l : List (List UInt8)) : Lib.join (w :: l) [32] = wordsL w l := by
  rw [Lib.join_cons]
  unfold wordsL
  congr 1
theorem wordsL_snoc (w : List UInt8) (l : List (List UInt8)) (x : List UInt8) : wordsL w (l ++ [x]) = wordsL w l ++ (32 :: x) := by
  unfold wordsL; rw [List.flatMap_append, List.append_assoc]; simp
theorem wordsL_len {w : List UInt8} {l : List (List UInt8)} {b : Nat} (h : ∀ x ∈ l, x.length ≤ b) : (wordsL w l).length ≤ w.length + l.length * (b + 1) := by
  unfold wordsL
  rw [List.length_append]
  have : (l.flatMap (fun x => 32 :: x)).length ≤ l.length * (b + 1) := by
    induction l with
    | nil => simp
    | cons x l ih =>
      have h1 := ih (fun y hy => h y (List.mem_cons_of_mem _ hy))
      have h2 := h x List.mem_cons_self
      rw [List.flatMap_cons, List.length_append, List.length_cons, List.length_cons, Nat.add_mul]; omega
  omega
def lineT (w : List UInt8) (l : List Int) : List UInt8 := wordsL w (l.map dec)
def lineR (w : List UInt8) (l : List Int) : List UInt8 := wordsL w (l.map decL)
theorem lineR_eq {w : List UInt8} {l : List Int} (h : ∀ x ∈ l, valB x = true) : lineR w l = lineT w l := by
  unfold lineR lineT; rw [List.map_congr_left (fun x hx => dec_val (h x hx))]
theorem lineR_len {w : List UInt8} {l : List Int} : (lineR w l).length ≤ w.length + l.length * 19 := by
  have := wordsL_len (w := w) (l := l.map decL) (b := 18) (fun x hx => by obtain ⟨n, _, rfl⟩ := List.mem_map.1 hx; exact decL_len n)
  rw [List.length_map] at this; exact this
theorem take_snoc_map {α β : Type} (f : α → β) {l : List α} {k : Nat} (h : k < l.length) : (l.take (k + 1)).map f = (l.take k).map f ++ [f l[k]] := by
  rw [List.take_succ_eq_append_getElem h, List.map_append]; rfl
theorem b32 : (⟨#[32]⟩ : ByteArray) = bA [32] := rfl
set_option maxHeartbeats 2000000 in
theorem decimal_g (n : Int) : Good Tryz.prog 34 [intP n] (txP (decL n)) := by
  have g := rformat_g n 0
  refine good34 (by simp) ?_
  simp only [ac34, intP, AW, reduceAdd, reduceCtorEq, reduceEqDiff, ↓reduceIte, reduceLT, reduceLeDiff, reduceSub, reducePow, reduceMul, reduceToNat, reduceLE, reduceEq, Int.reduceLT, Int.reduceBEq, Int.reduceBNe]
  refine ops_call (g) (by simp only [intP, AW, reduceAdd, reduceCtorEq, reduceEqDiff, ↓reduceIte, reduceLT, reduceLeDiff, reduceSub, reducePow, reduceMul, reduceToNat, reduceLE, reduceEq, Int.reduceLT, Int.reduceBEq, Int.reduceBNe]) ?_; simp only [intP, AW, reduceAdd, reduceCtorEq, reduceEqDiff, ↓reduceIte, reduceLT, reduceLeDiff, reduceSub, reducePow, reduceMul, reduceToNat, reduceLE, reduceEq, Int.reduceLT, Int.reduceBEq, Int.reduceBNe]
  unfold fmtP decL
  cases h : valB n
  · simp only [false_and, txP, AW, reduceAdd, reduceCtorEq, reduceEqDiff, ↓reduceIte, reduceLT, reduceLeDiff, reduceSub, reducePow, reduceMul, reduceToNat, reduceLE, reduceEq, Int.reduceLT, Int.reduceBEq, Int.reduceBNe]
    try rfl
  · simp only [txP, fmt0 n, Int.le_refl, Int.reduceLE, AW, reduceAdd, reduceCtorEq, reduceEqDiff, ↓reduceIte, reduceLT, reduceLeDiff, reduceSub, reducePow, reduceMul, reduceToNat, reduceLE, reduceEq, Int.reduceLT, Int.reduceBEq, Int.reduceBNe]
set_option maxHeartbeats 2000000 in
theorem line_g (w : List UInt8) (l : List Int) (hw : w.length ≤ 100) (hl : l.length ≤ 1000) (hr : ∀ x ∈ l, I64 x) : Good Tryz.prog 38 [txP w, intsP l] (txP (lineT w l)) := by
  have hb : (lineT w l).length ≤ 1000000 := by
    have := wordsL_len (w := w) (l := l.map dec) (b := 20) (fun x hx => by obtain ⟨n, hn, rfl⟩ := List.mem_map.1 hx; exact dec_len (hr n hn))
    rw [List.length_map] at this
    unfold lineT; omega
  have gj := join_g (w :: l.map dec) [32] (by rw [List.length_cons, List.length_map]; omega) (by rw [join_words]; unfold lineT at hb; omega)
  rw [join_words] at gj
  have hmx : l.length ≤ maxLen := by unfold maxLen; omega
  refine good38 (by simp) ?_
  simp only [ac38, txP, intsP, List.length_map, AW, reduceAdd, reduceCtorEq, reduceEqDiff, ↓reduceIte, reduceLT, reduceLeDiff, reduceSub, reducePow, reduceMul, reduceToNat, reduceLE, reduceEq, Int.reduceLT, Int.reduceBEq, Int.reduceBNe]
  refine run_loop (ι := Nat) (fun k => ⟨[(5, .own 2 0), (10, .sl (l.map intP)), (11, .sc (.int .i64 (l.length : Int))), (12, .sc (.int .i64 (k : Int)))], [(2, .row 9 1 0 ((w :: (l.take k).map dec).map txP))], 7, 24⟩) (fun k => k ≤ l.length) (fun k => l.length - k) 7 (fun _ => rfl) 0 (by simp only [LW, Nat.reduceMod, Nat.reduceDiv, Int.natCast_zero, List.take_zero, List.map_nil, List.map_cons, txP, List.length_map, AW, reduceAdd, reduceCtorEq, reduceEqDiff, ↓reduceIte, reduceLT, reduceLeDiff, reduceSub, reducePow, reduceMul, reduceToNat, reduceLE, reduceEq, Int.reduceLT, Int.reduceBEq, Int.reduceBNe]) (Nat.zero_le _) (fun k hk => ?_)
  have gk := hk
  by_cases hltk : k < l.length
  rotate_left
  · have dk : decide ((k : Int) < ((l.length : Nat) : Int)) = false := by rw [decide_eq_false_iff_not]; exact fun h => hltk (Int.ofNat_lt.1 h)
    have ek : k = l.length := Nat.le_antisymm gk (Nat.le_of_not_lt hltk)
    subst ek
    have e2 : (w :: (l.take l.length).map dec).map txP = (w :: l.map dec).map txP := by rw [List.take_length]
    have gj2 := gj
    rw [← e2] at gj2
    simp only [dk, List.length_map, AW, reduceAdd, reduceCtorEq, reduceEqDiff, ↓reduceIte, reduceLT, reduceLeDiff, reduceSub, reducePow, reduceMul, reduceToNat, reduceLE, reduceEq, Int.reduceLT, Int.reduceBEq, Int.reduceBNe]
    refine ops_call (gj2) (by simp only [txP, b32, AW, reduceAdd, reduceCtorEq, reduceEqDiff, ↓reduceIte, reduceLT, reduceLeDiff, reduceSub, reducePow, reduceMul, reduceToNat, reduceLE, reduceEq, Int.reduceLT, Int.reduceBEq, Int.reduceBNe]) ?_; simp only [txP, b32, AW, reduceAdd, reduceCtorEq, reduceEqDiff, ↓reduceIte, reduceLT, reduceLeDiff, reduceSub, reducePow, reduceMul, reduceToNat, reduceLE, reduceEq, Int.reduceLT, Int.reduceBEq, Int.reduceBNe]
    unfold lineT; rfl
  have dk : decide ((k : Int) < ((l.length : Nat) : Int)) = true := by rw [decide_eq_true_eq]; exact Int.ofNat_lt.2 hltk
  have gi := itoa_g l[k]
  have b1 : ((w :: (l.take k).map dec).map txP).length ≤ 2000 := by rw [List.length_map, List.length_cons, List.length_map, List.length_take]; omega
  have b2 : ((w :: (l.take k).map dec).map txP).length + 1 ≤ maxLen := by unfold maxLen; omega
  have b3 : (((w :: (l.take k).map dec).map txP).length + 1) * 16 ≤ 140737488355328 := by omega
  have es := take_snoc_map dec hltk
  generalize hrow : (w :: (l.take k).map dec).map txP = row at *
  simp only [dk, map_getD hltk, hltk, intP, List.length_map, AW, reduceAdd, reduceCtorEq, reduceEqDiff, ↓reduceIte, reduceLT, reduceLeDiff, reduceSub, reducePow, reduceMul, reduceToNat, reduceLE, reduceEq, Int.reduceLT, Int.reduceBEq, Int.reduceBNe]
  refine ops_call (gi) (by simp only [intP, txP, AW, reduceAdd, reduceCtorEq, reduceEqDiff, ↓reduceIte, reduceLT, reduceLeDiff, reduceSub, reducePow, reduceMul, reduceToNat, reduceLE, reduceEq, Int.reduceLT, Int.reduceBEq, Int.reduceBNe]) ?_; simp only [intP, txP, AW, reduceAdd, reduceCtorEq, reduceEqDiff, ↓reduceIte, reduceLT, reduceLeDiff, reduceSub, reducePow, reduceMul, reduceToNat, reduceLE, reduceEq, Int.reduceLT, Int.reduceBEq, Int.reduceBNe]
  simp only [b2, b3, wrap_succ hltk hmx, List.length_map, AW, reduceAdd, reduceCtorEq, reduceEqDiff, ↓reduceIte, reduceLT, reduceLeDiff, reduceSub, reducePow, reduceMul, reduceToNat, reduceLE, reduceEq, Int.reduceLT, Int.reduceBEq, Int.reduceBNe]
  refine ⟨k + 1, hltk, ?_, meas_lt hltk⟩
  simp only [LW, Nat.reduceMod, Nat.reduceDiv, es, ← hrow, List.map_append, List.map_cons, List.map_nil, txP, List.length_map, AW, reduceAdd, reduceCtorEq, reduceEqDiff, ↓reduceIte, reduceLT, reduceLeDiff, reduceSub, reducePow, reduceMul, reduceToNat, reduceLE, reduceEq, Int.reduceLT, Int.reduceBEq, Int.reduceBNe]
  try rfl
set_option maxHeartbeats 2000000 in
theorem qline_g (w : List UInt8) (l : List Int) (hw : w.length ≤ 1000) (hl : l.length ≤ 1000) : Good Tryz.prog 33 [txP w, intsP l] (txP (lineR w l)) := by
  have hmx : l.length ≤ maxLen := by unfold maxLen; omega
  refine good33 (by simp) ?_
  simp only [ac33, txP, intsP, List.length_map, AW, reduceAdd, reduceCtorEq, reduceEqDiff, ↓reduceIte, reduceLT, reduceLeDiff, reduceSub, reducePow, reduceMul, reduceToNat, reduceLE, reduceEq, Int.reduceLT, Int.reduceBEq, Int.reduceBNe]
  refine run_loop (ι := Nat) (fun k => ⟨[(0, .sc (.string (bA (wordsL w ((l.take k).map decL))))), (1, .sl (l.map intP)), (5, .sc (.int .i64 (k : Int)))], [], 2, 21⟩) (fun k => k ≤ l.length) (fun k => l.length - k) 2 (fun _ => rfl) 0 (by simp only [LW, Nat.reduceMod, Nat.reduceDiv, Int.natCast_zero, List.take_zero, List.map_nil, wordsL, List.flatMap_nil, List.append_nil, AW, reduceAdd, reduceCtorEq, reduceEqDiff, ↓reduceIte, reduceLT, reduceLeDiff, reduceSub, reducePow, reduceMul, reduceToNat, reduceLE, reduceEq, Int.reduceLT, Int.reduceBEq, Int.reduceBNe]) (Nat.zero_le _) (fun k hk => ?_)
  have gk := hk
  by_cases hltk : k < l.length
  rotate_left
  · have dk : decide ((k : Int) < ((l.length : Nat) : Int)) = false := by rw [decide_eq_false_iff_not]; exact fun h => hltk (Int.ofNat_lt.1 h)
    have ek : k = l.length := Nat.le_antisymm gk (Nat.le_of_not_lt hltk)
    subst ek
    simp only [dk, List.length_map, List.take_length, lineR, AW, reduceAdd, reduceCtorEq, reduceEqDiff, ↓reduceIte, reduceLT, reduceLeDiff, reduceSub, reducePow, reduceMul, reduceToNat, reduceLE, reduceEq, Int.reduceLT, Int.reduceBEq, Int.reduceBNe]
  have dk : decide ((k : Int) < ((l.length : Nat) : Int)) = true := by rw [decide_eq_true_eq]; exact Int.ofNat_lt.2 hltk
  have gi := decimal_g l[k]
  have hd := decL_len l[k]
  have hlen := lineR_len (w := w) (l := l.take k)
  rw [List.length_take] at hlen
  unfold lineR at hlen
  have es : (l.take (k + 1)).map decL = (l.take k).map decL ++ [decL l[k]] := take_snoc_map decL hltk
  have ew := wordsL_snoc w ((l.take k).map decL) (decL l[k])
  rw [← es] at ew
  obtain ⟨cs, hcs⟩ : ∃ c : List UInt8, c = [32] := ⟨_, rfl⟩
  have b32' : (⟨#[32]⟩ : ByteArray) = bA cs := by rw [hcs]; rfl
  have lcs : cs.length = 1 := by rw [hcs]; rfl
  have ew2 : wordsL w ((l.take k).map decL) ++ cs ++ decL l[k] = wordsL w ((l.take (k + 1)).map decL) := by rw [ew, hcs, List.append_assoc]; rfl
  generalize hA : wordsL w ((l.take k).map decL) = A at *
  have s1 : ((A.length + cs.length : Nat) : Int) ≤ 9223372036854775807 := by omega
  have s2 : ((A.length + cs.length + (decL l[k]).length : Nat) : Int) ≤ 9223372036854775807 := by omega
  simp only [dk, map_getD hltk, hltk, intP, List.length_map, b32', bA_size, s1, bA_append, AW, reduceAdd, reduceCtorEq, reduceEqDiff, ↓reduceIte, reduceLT, reduceLeDiff, reduceSub, reducePow, reduceMul, reduceToNat, reduceLE, reduceEq, Int.reduceLT, Int.reduceBEq, Int.reduceBNe]
  refine ops_call (gi) (by simp only [intP, txP, AW, reduceAdd, reduceCtorEq, reduceEqDiff, ↓reduceIte, reduceLT, reduceLeDiff, reduceSub, reducePow, reduceMul, reduceToNat, reduceLE, reduceEq, Int.reduceLT, Int.reduceBEq, Int.reduceBNe]) ?_; simp only [intP, txP, AW, reduceAdd, reduceCtorEq, reduceEqDiff, ↓reduceIte, reduceLT, reduceLeDiff, reduceSub, reducePow, reduceMul, reduceToNat, reduceLE, reduceEq, Int.reduceLT, Int.reduceBEq, Int.reduceBNe]
  simp only [bA_size, List.length_append, s2, bA_append, ew2, List.length_map, AW, reduceAdd, reduceCtorEq, reduceEqDiff, ↓reduceIte, reduceLT, reduceLeDiff, reduceSub, reducePow, reduceMul, reduceToNat, reduceLE, reduceEq, Int.reduceLT, Int.reduceBEq, Int.reduceBNe]
  (try simp only [wrap_succ hltk hmx, AW, reduceAdd, reduceCtorEq, reduceEqDiff, ↓reduceIte, reduceLT, reduceLeDiff, reduceSub, reducePow, reduceMul, reduceToNat, reduceLE, reduceEq, Int.reduceLT, Int.reduceBEq, Int.reduceBNe])
  refine ⟨k + 1, hltk, ?_, meas_lt hltk⟩
  simp only [LW, Nat.reduceMod, Nat.reduceDiv, AW, reduceAdd, reduceCtorEq, reduceEqDiff, ↓reduceIte, reduceLT, reduceLeDiff, reduceSub, reducePow, reduceMul, reduceToNat, reduceLE, reduceEq, Int.reduceLT, Int.reduceBEq, Int.reduceBNe]


end Go.Proofs.YtjnfldkcbcfboaaGreatDoor
