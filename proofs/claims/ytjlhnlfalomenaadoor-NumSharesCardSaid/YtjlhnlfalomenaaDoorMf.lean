/-
  Numbers: the examples of the chapter.
-/
import Derived.Test.YtjlhnlfalomenaaDoorMe
namespace Go.Proofs.YtjlhnlfalomenaaDoor
open Go.RowKit
open Nat (reduceAdd reduceEqDiff reduceLT reduceLeDiff reduceSub reducePow reduceMul)
open Int (reduceToNat reduceLE reduceEq)
set_option linter.unusedVariables false
set_option linter.unusedSimpArgs false
set_option linter.unnecessarySimpa false

theorem dec5 : Lib.decDigits 5 = [53] := by rw [Lib.decDigits_one (by decide)]; rfl
theorem dec1234 : Lib.decDigits 1234 = [49, 50, 51, 52] := by
  rw [Lib.decDigits, dif_neg (by decide), Lib.decDigits, dif_neg (by decide), Lib.decDigits, dif_neg (by decide), Lib.decDigits, dif_pos (by decide)]
  rfl
theorem ex_fmt : fmtP (-5) 2 = .tup [txP [45, 48, 46, 48, 53], intP 0] := by
  have : fmtL (-5) 2 = [45, 48, 46, 48, 53] := by
    rw [fmtL_eq, show (-5 : Int).natAbs = 5 from rfl, padL, dec5]; rfl
  unfold fmtP
  rw [if_pos ⟨by decide, by decide, by decide⟩]
  rw [show (2 : Int).toNat = 2 from rfl, this]
theorem ex_par : parP [49, 50, 46, 51, 52] 2 = .tup [intP 1234, intP 0] := by
  have : fmtL 1234 2 = [49, 50, 46, 51, 52] := by
    rw [fmtL_eq, show (1234 : Int).natAbs = 1234 from rfl, padL, dec1234]; rfl
  have h : parN [49, 50, 46, 51, 52] 2 = some 1234 := parN_iff.2 ⟨by decide, this⟩
  unfold parP
  rw [if_pos ⟨by decide, by decide⟩]
  rw [show (2 : Int).toNat = 2 from rfl, h]; rfl
theorem ex_share : shareP 7 [5, 0, 2, 3] = .tup [intsP [4, 0, 1, 2], intP 0] := by
  have : shareL 7 [5, 0, 2, 3] = ([4, 0, 1, 2], 0) := by decide +kernel
  unfold shareP; rw [this]; rfl
theorem ex_sum : totP [1125899906842624, 1, -1] = .tup [intP 1125899906842624, intP 0] := by
  unfold totP; rw [if_pos (by decide)]; rfl
set_option maxHeartbeats 4000000 in
theorem awake_g : Good Tryd.prog 17 [] (.sc (.bool true)) := by
  have g1 := add_g 3 (-5)
  rw [show addP 3 (-5) = .tup [intP (-2), intP 0] from rfl] at g1
  have g2 := add_g 1125899906842624 1
  rw [show addP 1125899906842624 1 = .tup [intP 0, intP 2] from rfl] at g2
  have g3 := mul_g 6 (-7)
  rw [show mulP 6 (-7) = .tup [intP (-42), intP 0] from rfl] at g3
  have g4 := muldiv_g 7 3 2
  rw [show mdP 7 3 2 = .tup [intP 10, intP 0] from rfl] at g4
  have g5 := near_g (-5) 2
  rw [show nearP (-5) 2 = .tup [intP (-2), intP 0] from rfl] at g5
  have g6 := share_g 7 [5, 0, 2, 3] (by decide)
  rw [ex_share] at g6
  have g7 := gformat_g (-5) 2
  rw [ex_fmt] at g7
  have g8 := parse_g [49, 50, 46, 51, 52] 2 (by decide)
  rw [ex_par] at g8
  have g9 := sum_g [1125899906842624, 1, -1]
  rw [ex_sum] at g9
  have g10 := same_g [4, 0, 1, 2] [4, 0, 1, 2]
  have bs : (⟨#[49, 50, 46, 51, 52]⟩ : ByteArray) = bA [49, 50, 46, 51, 52] := rfl
  have bt : (⟨#[45, 48, 46, 48, 53]⟩ : ByteArray) = bA [45, 48, 46, 48, 53] := rfl
  refine good17 (by simp) ?_
  simp only [ac17, AW, reduceAdd, reduceCtorEq, reduceEqDiff, ↓reduceIte, reduceLT, reduceLeDiff, reduceSub, reducePow, reduceMul, reduceToNat, reduceLE, reduceEq, Int.reduceLT, Int.reduceBEq, Int.reduceBNe]
  refine ops_call (g1) (by simp only [intP, AW, reduceAdd, reduceCtorEq, reduceEqDiff, ↓reduceIte, reduceLT, reduceLeDiff, reduceSub, reducePow, reduceMul, reduceToNat, reduceLE, reduceEq, Int.reduceLT, Int.reduceBEq, Int.reduceBNe]) ?_; simp only [intP, AW, reduceAdd, reduceCtorEq, reduceEqDiff, ↓reduceIte, reduceLT, reduceLeDiff, reduceSub, reducePow, reduceMul, reduceToNat, reduceLE, reduceEq, Int.reduceLT, Int.reduceBEq, Int.reduceBNe]
  refine ops_call (g2) (by simp only [intP, AW, reduceAdd, reduceCtorEq, reduceEqDiff, ↓reduceIte, reduceLT, reduceLeDiff, reduceSub, reducePow, reduceMul, reduceToNat, reduceLE, reduceEq, Int.reduceLT, Int.reduceBEq, Int.reduceBNe]) ?_; simp only [intP, AW, reduceAdd, reduceCtorEq, reduceEqDiff, ↓reduceIte, reduceLT, reduceLeDiff, reduceSub, reducePow, reduceMul, reduceToNat, reduceLE, reduceEq, Int.reduceLT, Int.reduceBEq, Int.reduceBNe]
  refine ops_call (g3) (by simp only [intP, AW, reduceAdd, reduceCtorEq, reduceEqDiff, ↓reduceIte, reduceLT, reduceLeDiff, reduceSub, reducePow, reduceMul, reduceToNat, reduceLE, reduceEq, Int.reduceLT, Int.reduceBEq, Int.reduceBNe]) ?_; simp only [intP, AW, reduceAdd, reduceCtorEq, reduceEqDiff, ↓reduceIte, reduceLT, reduceLeDiff, reduceSub, reducePow, reduceMul, reduceToNat, reduceLE, reduceEq, Int.reduceLT, Int.reduceBEq, Int.reduceBNe]
  refine ops_call (g4) (by simp only [intP, AW, reduceAdd, reduceCtorEq, reduceEqDiff, ↓reduceIte, reduceLT, reduceLeDiff, reduceSub, reducePow, reduceMul, reduceToNat, reduceLE, reduceEq, Int.reduceLT, Int.reduceBEq, Int.reduceBNe]) ?_; simp only [intP, AW, reduceAdd, reduceCtorEq, reduceEqDiff, ↓reduceIte, reduceLT, reduceLeDiff, reduceSub, reducePow, reduceMul, reduceToNat, reduceLE, reduceEq, Int.reduceLT, Int.reduceBEq, Int.reduceBNe]
  refine ops_call (g5) (by simp only [intP, AW, reduceAdd, reduceCtorEq, reduceEqDiff, ↓reduceIte, reduceLT, reduceLeDiff, reduceSub, reducePow, reduceMul, reduceToNat, reduceLE, reduceEq, Int.reduceLT, Int.reduceBEq, Int.reduceBNe]) ?_; simp only [intP, AW, reduceAdd, reduceCtorEq, reduceEqDiff, ↓reduceIte, reduceLT, reduceLeDiff, reduceSub, reducePow, reduceMul, reduceToNat, reduceLE, reduceEq, Int.reduceLT, Int.reduceBEq, Int.reduceBNe]
  refine ops_call (g6) (by simp only [intP, intsP, List.map_cons, List.map_nil, AW, reduceAdd, reduceCtorEq, reduceEqDiff, ↓reduceIte, reduceLT, reduceLeDiff, reduceSub, reducePow, reduceMul, reduceToNat, reduceLE, reduceEq, Int.reduceLT, Int.reduceBEq, Int.reduceBNe]) ?_; simp only [intP, intsP, List.map_cons, List.map_nil, AW, reduceAdd, reduceCtorEq, reduceEqDiff, ↓reduceIte, reduceLT, reduceLeDiff, reduceSub, reducePow, reduceMul, reduceToNat, reduceLE, reduceEq, Int.reduceLT, Int.reduceBEq, Int.reduceBNe]
  refine ops_call (g7) (by simp only [intP, txP, AW, reduceAdd, reduceCtorEq, reduceEqDiff, ↓reduceIte, reduceLT, reduceLeDiff, reduceSub, reducePow, reduceMul, reduceToNat, reduceLE, reduceEq, Int.reduceLT, Int.reduceBEq, Int.reduceBNe]) ?_; simp only [intP, txP, AW, reduceAdd, reduceCtorEq, reduceEqDiff, ↓reduceIte, reduceLT, reduceLeDiff, reduceSub, reducePow, reduceMul, reduceToNat, reduceLE, reduceEq, Int.reduceLT, Int.reduceBEq, Int.reduceBNe]
  refine ops_call (g8) (by simp only [intP, txP, bs, AW, reduceAdd, reduceCtorEq, reduceEqDiff, ↓reduceIte, reduceLT, reduceLeDiff, reduceSub, reducePow, reduceMul, reduceToNat, reduceLE, reduceEq, Int.reduceLT, Int.reduceBEq, Int.reduceBNe]) ?_; simp only [intP, txP, bs, AW, reduceAdd, reduceCtorEq, reduceEqDiff, ↓reduceIte, reduceLT, reduceLeDiff, reduceSub, reducePow, reduceMul, reduceToNat, reduceLE, reduceEq, Int.reduceLT, Int.reduceBEq, Int.reduceBNe]
  refine ops_call (g9) (by simp only [intP, intsP, List.map_cons, List.map_nil, AW, reduceAdd, reduceCtorEq, reduceEqDiff, ↓reduceIte, reduceLT, reduceLeDiff, reduceSub, reducePow, reduceMul, reduceToNat, reduceLE, reduceEq, Int.reduceLT, Int.reduceBEq, Int.reduceBNe]) ?_; simp only [intP, intsP, List.map_cons, List.map_nil, AW, reduceAdd, reduceCtorEq, reduceEqDiff, ↓reduceIte, reduceLT, reduceLeDiff, reduceSub, reducePow, reduceMul, reduceToNat, reduceLE, reduceEq, Int.reduceLT, Int.reduceBEq, Int.reduceBNe]
  refine ops_call (g10) (by simp only [intP, intsP, List.map_cons, List.map_nil, AW, reduceAdd, reduceCtorEq, reduceEqDiff, ↓reduceIte, reduceLT, reduceLeDiff, reduceSub, reducePow, reduceMul, reduceToNat, reduceLE, reduceEq, Int.reduceLT, Int.reduceBEq, Int.reduceBNe]) ?_; simp only [intP, intsP, List.map_cons, List.map_nil, AW, reduceAdd, reduceCtorEq, reduceEqDiff, ↓reduceIte, reduceLT, reduceLeDiff, reduceSub, reducePow, reduceMul, reduceToNat, reduceLE, reduceEq, Int.reduceLT, Int.reduceBEq, Int.reduceBNe]
  simp only [bt, bA_beq, AW, reduceAdd, reduceCtorEq, reduceEqDiff, ↓reduceIte, reduceLT, reduceLeDiff, reduceSub, reducePow, reduceMul, reduceToNat, reduceLE, reduceEq, Int.reduceLT, Int.reduceBEq, Int.reduceBNe]


end Go.Proofs.YtjlhnlfalomenaaDoor
