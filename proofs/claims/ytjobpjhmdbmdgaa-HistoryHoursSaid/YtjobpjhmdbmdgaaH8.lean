/-
  The history of a city: sums of two counts.
-/
import Derived.Test.YtjobpjhmdbmdgaaH7
namespace Go.Proofs.Ytjobpjhmdbmdgaa
open Go.RowKit
set_option linter.unusedVariables false
set_option linter.unusedSimpArgs false
set_option linter.unnecessarySimpa false

def zipA (a b : List Int) : List Int := List.zipWith (· + ·) a b
def zeroC : CountsS := ⟨0, [], []⟩
def addC (a b : CountsS) : CountsS × Int :=
  if checkC a ≠ 0 then (zeroC, checkC a) else if checkC b ≠ 0 then (zeroC, checkC b) else if a.stations ≠ b.stations then (zeroC, 3)
  else if (numbersL (zipA a.out b.out) && numbersL (zipA a.into b.into)) = false then (zeroC, 2) else (⟨a.stations, zipA a.out b.out, zipA a.into b.into⟩, 0)
def addP (r : CountsS × Int) : PV := .tup [r.1.pv, intP r.2]
def accS (a b : List Int) : Nat → List Int
  | 0 => a
  | k + 1 => (accS a b k).set k (a.getD k 0 + b.getD k 0)
theorem accS_len (a b : List Int) : ∀ k, (accS a b k).length = a.length
  | 0 => rfl
  | k + 1 => by simp only [accS, List.length_set]; exact accS_len a b k
theorem accS_get (a b : List Int) : ∀ k j, j < a.length → (accS a b k)[j]? = some (if j < k then a.getD j 0 + b.getD j 0 else a.getD j 0)
  | 0, j, h => by
    simp only [accS, Nat.not_lt_zero, if_false]
    rw [List.getD_eq_getElem?_getD, List.getElem?_eq_getElem h]; rfl
  | k + 1, j, h => by
    simp only [accS]
    rw [List.getElem?_set, accS_get a b k j h, accS_len]
    by_cases e : k = j
    · subst e; rw [if_pos rfl, if_pos h, if_pos (by omega)]
    · rw [if_neg e]
      by_cases e2 : j < k
      · rw [if_pos e2, if_pos (by omega)]
      · rw [if_neg e2, if_neg (by omega)]
theorem zipA_len {a b : List Int} (h : a.length = b.length) : (zipA a b).length = a.length := by unfold zipA; rw [List.length_zipWith]; omega
theorem zipA_get {a b : List Int} (h : a.length = b.length) {j : Nat} (hj : j < a.length) : (zipA a b)[j]'(by rw [zipA_len h]; exact hj) = a.getD j 0 + b.getD j 0 := by
  simp only [zipA, List.getElem_zipWith]
  rw [List.getD_eq_getElem?_getD, List.getD_eq_getElem?_getD, List.getElem?_eq_getElem hj, List.getElem?_eq_getElem (h ▸ hj)]; rfl
theorem accS_all {a b : List Int} (h : a.length = b.length) : accS a b a.length = zipA a b := by
  apply List.ext_getElem?
  intro j
  by_cases hj : j < a.length
  · rw [accS_get a b _ j hj, if_pos hj, List.getElem?_eq_getElem (by rw [zipA_len h]; exact hj), zipA_get h hj]
  · rw [List.getElem?_eq_none (by rw [accS_len]; omega), List.getElem?_eq_none (by rw [zipA_len h]; omega)]
theorem num_zip {a b : List Int} (h : a.length = b.length) (ha : numbersL a = true) (hb : numbersL b = true) : numbersL (zipA a b) = true ↔ ∀ j, j < a.length → a.getD j 0 + b.getD j 0 ≤ 1000000 := by
  unfold numbersL
  rw [List.all_eq_true]
  constructor
  · intro h1 j hj
    have := h1 _ (List.getElem_mem (l := zipA a b) (n := j) (by rw [zipA_len h]; exact hj))
    rw [zipA_get h hj] at this
    simp at this; exact this.2
  · intro h1 x hx
    obtain ⟨j, hj, rfl⟩ := List.getElem_of_mem hx
    rw [zipA_len h] at hj
    rw [zipA_get h hj]
    have := getD_num ha j
    have := getD_num hb j
    have := h1 j hj
    simp only [Bool.and_eq_true, decide_eq_true_eq]; omega
def sumsP (a b : List Int) : PV := if numbersL (zipA a b) then .tup [intsP (zipA a b), intP 0] else .tup [.sl [], intP 2]
set_option maxHeartbeats 4000000 in
theorem sums_g (a b : List Int) (h : a.length = b.length) (hl : a.length ≤ 100000) (ha : numbersL a = true) (hb : numbersL b = true) : Good Try.prog 34 [intsP a, intsP b] (sumsP a b) := by
  have hlen : b.length ≤ maxLen := by unfold maxLen; omega
  refine good34 (by simp) ?_
  simp only [ac34, intsP, AW, Nat.reduceAdd, reduceCtorEq, Nat.reduceEqDiff, ↓reduceIte, Nat.reduceLT, Nat.reduceLeDiff, Nat.reduceSub, Nat.reducePow, Nat.reduceMul, Int.reduceToNat, Int.reduceLE, Int.reduceEq, Int.reduceLT, Int.reduceBEq, Int.reduceBNe]
  refine ops_callO (clone_o a (by omega)) (by simp only [intsP, AW, Nat.reduceAdd, reduceCtorEq, Nat.reduceEqDiff, ↓reduceIte, Nat.reduceLT, Nat.reduceLeDiff, Nat.reduceSub, Nat.reducePow, Nat.reduceMul, Int.reduceToNat, Int.reduceLE, Int.reduceEq, Int.reduceLT, Int.reduceBEq, Int.reduceBNe]) ?_; simp only [AW, Nat.reduceAdd, reduceCtorEq, Nat.reduceEqDiff, ↓reduceIte, Nat.reduceLT, Nat.reduceLeDiff, Nat.reduceSub, Nat.reducePow, Nat.reduceMul, Int.reduceToNat, Int.reduceLE, Int.reduceEq, Int.reduceLT, Int.reduceBEq, Int.reduceBNe]
  refine run_loop (ι := Nat) (fun k => ⟨[(6, .own 3 0), (11, .sl (b.map intP)), (12, .sc (.int .i64 (b.length : Int))), (13, .sc (.int .i64 (k : Int)))], [(3, .row 3 1 0 ((accS a b k).map intP))], 8, 32⟩) (fun k => k ≤ b.length ∧ (∀ j, j < k → a.getD j 0 + b.getD j 0 ≤ 1000000)) (fun k => b.length - k) 8 (fun _ => rfl) 0 (by simp only [LW, Nat.reduceMod, Nat.reduceDiv, Int.natCast_zero, accS, AW, Nat.reduceAdd, reduceCtorEq, Nat.reduceEqDiff, ↓reduceIte, Nat.reduceLT, Nat.reduceLeDiff, Nat.reduceSub, Nat.reducePow, Nat.reduceMul, Int.reduceToNat, Int.reduceLE, Int.reduceEq, Int.reduceLT, Int.reduceBEq, Int.reduceBNe]) ⟨Nat.zero_le _, nofun⟩ (fun k hk => ?_)
  obtain ⟨gk, ik⟩ := hk
  by_cases hltk : k < b.length
  rotate_left
  · have dk : decide ((k : Int) < ((b.length : Nat) : Int)) = false := by rw [decide_eq_false_iff_not]; exact fun h => hltk (Int.ofNat_lt.1 h)
    have ek : k = b.length := Nat.le_antisymm gk (Nat.le_of_not_lt hltk)
    subst ek
    have e1 : numbersL (zipA a b) = true := (num_zip h ha hb).2 (fun j hj => ik j (by omega))
    have e2 : accS a b b.length = zipA a b := by rw [← h]; exact accS_all h
    simp only [dk, sumsP, e1, e2, intsP, intP, AW, Nat.reduceAdd, reduceCtorEq, Nat.reduceEqDiff, ↓reduceIte, Nat.reduceLT, Nat.reduceLeDiff, Nat.reduceSub, Nat.reducePow, Nat.reduceMul, Int.reduceToNat, Int.reduceLE, Int.reduceEq, Int.reduceLT, Int.reduceBEq, Int.reduceBNe]
  have dk : decide ((k : Int) < ((b.length : Nat) : Int)) = true := by rw [decide_eq_true_eq]; exact Int.ofNat_lt.2 hltk
  have hk2 : k < a.length := by omega
  have hk3 : k < (accS a b k).length := by rw [accS_len]; exact hk2
  have hk4 : k < (accS a b (k + 1)).length := by rw [accS_len]; exact hk2
  have v1 : (accS a b k)[k] = a.getD k 0 := by
    have := accS_get a b k k hk2; rw [List.getElem?_eq_getElem hk3, if_neg (Nat.lt_irrefl k)] at this; exact Option.some.inj this
  have v2 : (accS a b (k + 1))[k] = a.getD k 0 + b.getD k 0 := by
    have := accS_get a b (k + 1) k hk2; rw [List.getElem?_eq_getElem hk4, if_pos (Nat.lt_succ_self k)] at this; exact Option.some.inj this
  have v3 : b[k] = b.getD k 0 := by rw [List.getD_eq_getElem?_getD, List.getElem?_eq_getElem hltk]; rfl
  have b1 := getD_num ha k
  have b2 := getD_num hb k
  have w1 : IntKind.wrap .i64 (a.getD k 0 + b.getD k 0) = a.getD k 0 + b.getD k 0 := wrap_id (by unfold I64; omega)
  have s1 : List.set ((accS a b k).map intP) k (.sc (.int .i64 (a.getD k 0 + b.getD k 0))) = (accS a b (k + 1)).map intP := by
    simp only [accS, List.map_set]; rfl
  have hk5 : k < ((accS a b k).map intP).length := by rw [List.length_map]; exact hk3
  have hk6 : k < ((accS a b (k + 1)).map intP).length := by rw [List.length_map]; exact hk4
  simp only [dk, map_getD hltk, hltk, intP, hk3, map_getD hk3, v1, v3, w1, s1, hk4, map_getD hk4, v2, AW, Nat.reduceAdd, reduceCtorEq, Nat.reduceEqDiff, ↓reduceIte, Nat.reduceLT, Nat.reduceLeDiff, Nat.reduceSub, Nat.reducePow, Nat.reduceMul, Int.reduceToNat, Int.reduceLE, Int.reduceEq, Int.reduceLT, Int.reduceBEq, Int.reduceBNe]
  cases c1 : decide ((1000000 : Int) < a.getD k 0 + b.getD k 0)
  rotate_left
  · have e1 : numbersL (zipA a b) = false := by
      cases hz : numbersL (zipA a b)
      · rfl
      · have := (num_zip h ha hb).1 hz k hk2
        rw [decide_eq_true_eq] at c1; omega
    simp only [sumsP, e1, intP, AW, Nat.reduceAdd, reduceCtorEq, Nat.reduceEqDiff, ↓reduceIte, Nat.reduceLT, Nat.reduceLeDiff, Nat.reduceSub, Nat.reducePow, Nat.reduceMul, Int.reduceToNat, Int.reduceLE, Int.reduceEq, Int.reduceLT, Int.reduceBEq, Int.reduceBNe]
  rw [decide_eq_false_iff_not] at c1
  simp only [wrap_succ hltk hlen, AW, Nat.reduceAdd, reduceCtorEq, Nat.reduceEqDiff, ↓reduceIte, Nat.reduceLT, Nat.reduceLeDiff, Nat.reduceSub, Nat.reducePow, Nat.reduceMul, Int.reduceToNat, Int.reduceLE, Int.reduceEq, Int.reduceLT, Int.reduceBEq, Int.reduceBNe]
  refine ⟨k + 1, ⟨hltk, fun j hj => ?_⟩, ?_, by omega⟩
  · by_cases e : j = k
    · subst e; omega
    · exact ik j (by omega)
  · simp only [LW, Nat.reduceMod, Nat.reduceDiv, AW, Nat.reduceAdd, reduceCtorEq, Nat.reduceEqDiff, ↓reduceIte, Nat.reduceLT, Nat.reduceLeDiff, Nat.reduceSub, Nat.reducePow, Nat.reduceMul, Int.reduceToNat, Int.reduceLE, Int.reduceEq, Int.reduceLT, Int.reduceBEq, Int.reduceBNe]
theorem addC_1 {a b : CountsS} (h : checkC a ≠ 0) : addC a b = (zeroC, checkC a) := by unfold addC; rw [if_pos h]
theorem addC_2 {a b : CountsS} (h : checkC a = 0) (h2 : checkC b ≠ 0) : addC a b = (zeroC, checkC b) := by unfold addC; rw [if_neg (by simp [h]), if_pos h2]
theorem addC_3 {a b : CountsS} (h : checkC a = 0) (h2 : checkC b = 0) (h3 : a.stations ≠ b.stations) : addC a b = (zeroC, 3) := by unfold addC; rw [if_neg (by simp [h]), if_neg (by simp [h2]), if_pos h3]
theorem addC_4 {a b : CountsS} (h : checkC a = 0) (h2 : checkC b = 0) (h3 : a.stations = b.stations) (h4 : (numbersL (zipA a.out b.out) && numbersL (zipA a.into b.into)) = false) : addC a b = (zeroC, 2) := by unfold addC; rw [if_neg (by simp [h]), if_neg (by simp [h2]), if_neg (by simp [h3]), if_pos h4]
theorem addC_5 {a b : CountsS} (h : checkC a = 0) (h2 : checkC b = 0) (h3 : a.stations = b.stations) (h4 : (numbersL (zipA a.out b.out) && numbersL (zipA a.into b.into)) = true) : addC a b = (⟨a.stations, zipA a.out b.out, zipA a.into b.into⟩, 0) := by unfold addC; rw [if_neg (by simp [h]), if_neg (by simp [h2]), if_neg (by simp [h3]), if_neg (by simp [h4])]
set_option maxHeartbeats 4000000 in
theorem add_g (a b : CountsS) : Good Try.prog 18 [a.pv, b.pv] (addP (addC a b)) := by
  refine good18 (by simp) ?_
  simp only [ac18, CountsS.pv, AW, Nat.reduceAdd, reduceCtorEq, Nat.reduceEqDiff, ↓reduceIte, Nat.reduceLT, Nat.reduceLeDiff, Nat.reduceSub, Nat.reducePow, Nat.reduceMul, Int.reduceToNat, Int.reduceLE, Int.reduceEq, Int.reduceLT, Int.reduceBEq, Int.reduceBNe]
  refine run_loop (ι := Nat) (fun k => ⟨[(2, .ptr 0 0), (3, .ptr 1 0), (4, .ptr 2 0), (14, .own 6 0), (15, .sc (.int .i64 ((2 : Nat) : Int))), (16, .sc (.int .i64 (k : Int)))], [(0, .var [.sc (.int .i64 a.stations), .sl (a.out.map intP), .sl (a.into.map intP)]), (1, .var [.sc (.int .i64 b.stations), .sl (b.out.map intP), .sl (b.into.map intP)]), (2, .var [.sc (.int .i64 0), .sc (.slice none 0 0), .sc (.slice none 0 0)]), (6, .row 26 3 0 [.agg [.sc (.int .i64 a.stations), .sl (a.out.map intP), .sl (a.into.map intP)], .agg [.sc (.int .i64 b.stations), .sl (b.out.map intP), .sl (b.into.map intP)]])], 9, 62⟩) (fun k => k ≤ 2 ∧ (1 ≤ k → checkC a = 0) ∧ (2 ≤ k → checkC b = 0)) (fun k => 2 - k) 9 (fun _ => rfl) 0 (by simp only [LW, Nat.reduceMod, Nat.reduceDiv, Int.natCast_zero, AW, Nat.reduceAdd, reduceCtorEq, Nat.reduceEqDiff, ↓reduceIte, Nat.reduceLT, Nat.reduceLeDiff, Nat.reduceSub, Nat.reducePow, Nat.reduceMul, Int.reduceToNat, Int.reduceLE, Int.reduceEq, Int.reduceLT, Int.reduceBEq, Int.reduceBNe]) ⟨by omega, by omega, by omega⟩ (fun k hk => ?_)
  obtain ⟨k1, k2, k3⟩ := hk
  have cases3 : k = 0 ∨ k = 1 ∨ k = 2 := by omega
  rcases cases3 with rfl | rfl | rfl
  · have d1 : decide (((0 : Nat) : Int) < ((2 : Nat) : Int)) = true := rfl
    have t0 : ((0 : Nat) : Int).toNat = 0 := rfl
    have t1 : (0 : Int) ≤ ((0 : Nat) : Int) := by omega
    have w1 : IntKind.wrap .i64 (((0 : Nat) : Int) + 1) = ((1 : Nat) : Int) := rfl
    simp only [d1, t0, t1, AW, Nat.reduceAdd, reduceCtorEq, Nat.reduceEqDiff, ↓reduceIte, Nat.reduceLT, Nat.reduceLeDiff, Nat.reduceSub, Nat.reducePow, Nat.reduceMul, Int.reduceToNat, Int.reduceLE, Int.reduceEq, Int.reduceLT, Int.reduceBEq, Int.reduceBNe]
    refine ops_call (rcheckC_g a) (by simp only [CountsS.pv, intP, AW, Nat.reduceAdd, reduceCtorEq, Nat.reduceEqDiff, ↓reduceIte, Nat.reduceLT, Nat.reduceLeDiff, Nat.reduceSub, Nat.reducePow, Nat.reduceMul, Int.reduceToNat, Int.reduceLE, Int.reduceEq, Int.reduceLT, Int.reduceBEq, Int.reduceBNe]) ?_; simp only [CountsS.pv, intP, AW, Nat.reduceAdd, reduceCtorEq, Nat.reduceEqDiff, ↓reduceIte, Nat.reduceLT, Nat.reduceLeDiff, Nat.reduceSub, Nat.reducePow, Nat.reduceMul, Int.reduceToNat, Int.reduceLE, Int.reduceEq, Int.reduceLT, Int.reduceBEq, Int.reduceBNe]
    cases hc : (checkC a != 0)
    · simp only [w1, AW, Nat.reduceAdd, reduceCtorEq, Nat.reduceEqDiff, ↓reduceIte, Nat.reduceLT, Nat.reduceLeDiff, Nat.reduceSub, Nat.reducePow, Nat.reduceMul, Int.reduceToNat, Int.reduceLE, Int.reduceEq, Int.reduceLT, Int.reduceBEq, Int.reduceBNe]
      refine ⟨1, ⟨by omega, fun _ => by simpa using hc, by omega⟩, ?_, by omega⟩
      simp only [LW, Nat.reduceMod, Nat.reduceDiv, AW, Nat.reduceAdd, reduceCtorEq, Nat.reduceEqDiff, ↓reduceIte, Nat.reduceLT, Nat.reduceLeDiff, Nat.reduceSub, Nat.reducePow, Nat.reduceMul, Int.reduceToNat, Int.reduceLE, Int.reduceEq, Int.reduceLT, Int.reduceBEq, Int.reduceBNe]
    · rw [addC_1 (by simpa using hc)]
      simp only [addP, zeroC, CountsS.pv, intP, AW, Nat.reduceAdd, reduceCtorEq, Nat.reduceEqDiff, ↓reduceIte, Nat.reduceLT, Nat.reduceLeDiff, Nat.reduceSub, Nat.reducePow, Nat.reduceMul, Int.reduceToNat, Int.reduceLE, Int.reduceEq, Int.reduceLT, Int.reduceBEq, Int.reduceBNe]
  · have d1 : decide (((1 : Nat) : Int) < ((2 : Nat) : Int)) = true := rfl
    have t0 : ((1 : Nat) : Int).toNat = 1 := rfl
    have t1 : (0 : Int) ≤ ((1 : Nat) : Int) := by omega
    have w1 : IntKind.wrap .i64 (((1 : Nat) : Int) + 1) = ((2 : Nat) : Int) := rfl
    simp only [d1, t0, t1, AW, Nat.reduceAdd, reduceCtorEq, Nat.reduceEqDiff, ↓reduceIte, Nat.reduceLT, Nat.reduceLeDiff, Nat.reduceSub, Nat.reducePow, Nat.reduceMul, Int.reduceToNat, Int.reduceLE, Int.reduceEq, Int.reduceLT, Int.reduceBEq, Int.reduceBNe]
    refine ops_call (rcheckC_g b) (by simp only [CountsS.pv, intP, AW, Nat.reduceAdd, reduceCtorEq, Nat.reduceEqDiff, ↓reduceIte, Nat.reduceLT, Nat.reduceLeDiff, Nat.reduceSub, Nat.reducePow, Nat.reduceMul, Int.reduceToNat, Int.reduceLE, Int.reduceEq, Int.reduceLT, Int.reduceBEq, Int.reduceBNe]) ?_; simp only [CountsS.pv, intP, AW, Nat.reduceAdd, reduceCtorEq, Nat.reduceEqDiff, ↓reduceIte, Nat.reduceLT, Nat.reduceLeDiff, Nat.reduceSub, Nat.reducePow, Nat.reduceMul, Int.reduceToNat, Int.reduceLE, Int.reduceEq, Int.reduceLT, Int.reduceBEq, Int.reduceBNe]
    cases hc : (checkC b != 0)
    · simp only [w1, AW, Nat.reduceAdd, reduceCtorEq, Nat.reduceEqDiff, ↓reduceIte, Nat.reduceLT, Nat.reduceLeDiff, Nat.reduceSub, Nat.reducePow, Nat.reduceMul, Int.reduceToNat, Int.reduceLE, Int.reduceEq, Int.reduceLT, Int.reduceBEq, Int.reduceBNe]
      refine ⟨2, ⟨by omega, fun _ => k2 (by omega), fun _ => by simpa using hc⟩, ?_, by omega⟩
      simp only [LW, Nat.reduceMod, Nat.reduceDiv, AW, Nat.reduceAdd, reduceCtorEq, Nat.reduceEqDiff, ↓reduceIte, Nat.reduceLT, Nat.reduceLeDiff, Nat.reduceSub, Nat.reducePow, Nat.reduceMul, Int.reduceToNat, Int.reduceLE, Int.reduceEq, Int.reduceLT, Int.reduceBEq, Int.reduceBNe]
    · rw [addC_2 (k2 (by omega)) (by simpa using hc)]
      simp only [addP, zeroC, CountsS.pv, intP, AW, Nat.reduceAdd, reduceCtorEq, Nat.reduceEqDiff, ↓reduceIte, Nat.reduceLT, Nat.reduceLeDiff, Nat.reduceSub, Nat.reducePow, Nat.reduceMul, Int.reduceToNat, Int.reduceLE, Int.reduceEq, Int.reduceLT, Int.reduceBEq, Int.reduceBNe]
  have ha := k2 (by omega)
  have hb := k3 (by omega)
  have d1 : decide (((2 : Nat) : Int) < ((2 : Nat) : Int)) = false := rfl
  simp only [d1, AW, Nat.reduceAdd, reduceCtorEq, Nat.reduceEqDiff, ↓reduceIte, Nat.reduceLT, Nat.reduceLeDiff, Nat.reduceSub, Nat.reducePow, Nat.reduceMul, Int.reduceToNat, Int.reduceLE, Int.reduceEq, Int.reduceLT, Int.reduceBEq, Int.reduceBNe]
  cases c1 : (a.stations != b.stations)
  rotate_left
  · rw [addC_3 ha hb (by simpa using c1)]
    simp only [addP, zeroC, CountsS.pv, intP, AW, Nat.reduceAdd, reduceCtorEq, Nat.reduceEqDiff, ↓reduceIte, Nat.reduceLT, Nat.reduceLeDiff, Nat.reduceSub, Nat.reducePow, Nat.reduceMul, Int.reduceToNat, Int.reduceLE, Int.reduceEq, Int.reduceLT, Int.reduceBEq, Int.reduceBNe]
  have hs : a.stations = b.stations := by simpa using c1
  obtain ⟨a1, a2, a3, a4, a5⟩ := checkC_ok ha
  obtain ⟨b1, b2, b3, b4, b5⟩ := checkC_ok hb
  simp only [AW, Nat.reduceAdd, reduceCtorEq, Nat.reduceEqDiff, ↓reduceIte, Nat.reduceLT, Nat.reduceLeDiff, Nat.reduceSub, Nat.reducePow, Nat.reduceMul, Int.reduceToNat, Int.reduceLE, Int.reduceEq, Int.reduceLT, Int.reduceBEq, Int.reduceBNe]
  refine ops_call (sums_g a.out b.out (by omega) (by omega) a4 b4) (by simp only [intsP, AW, Nat.reduceAdd, reduceCtorEq, Nat.reduceEqDiff, ↓reduceIte, Nat.reduceLT, Nat.reduceLeDiff, Nat.reduceSub, Nat.reducePow, Nat.reduceMul, Int.reduceToNat, Int.reduceLE, Int.reduceEq, Int.reduceLT, Int.reduceBEq, Int.reduceBNe]) ?_; simp only [intsP, AW, Nat.reduceAdd, reduceCtorEq, Nat.reduceEqDiff, ↓reduceIte, Nat.reduceLT, Nat.reduceLeDiff, Nat.reduceSub, Nat.reducePow, Nat.reduceMul, Int.reduceToNat, Int.reduceLE, Int.reduceEq, Int.reduceLT, Int.reduceBEq, Int.reduceBNe]
  cases n1 : numbersL (zipA a.out b.out)
  · rw [addC_4 ha hb hs (by rw [n1]; rfl)]
    simp only [sumsP, n1, addP, zeroC, CountsS.pv, intP, AW, Nat.reduceAdd, reduceCtorEq, Nat.reduceEqDiff, ↓reduceIte, Nat.reduceLT, Nat.reduceLeDiff, Nat.reduceSub, Nat.reducePow, Nat.reduceMul, Int.reduceToNat, Int.reduceLE, Int.reduceEq, Int.reduceLT, Int.reduceBEq, Int.reduceBNe]
  simp only [sumsP, n1, intsP, intP, AW, Nat.reduceAdd, reduceCtorEq, Nat.reduceEqDiff, ↓reduceIte, Nat.reduceLT, Nat.reduceLeDiff, Nat.reduceSub, Nat.reducePow, Nat.reduceMul, Int.reduceToNat, Int.reduceLE, Int.reduceEq, Int.reduceLT, Int.reduceBEq, Int.reduceBNe]
  refine ops_call (sums_g a.into b.into (by omega) (by omega) a5 b5) (by simp only [intsP, AW, Nat.reduceAdd, reduceCtorEq, Nat.reduceEqDiff, ↓reduceIte, Nat.reduceLT, Nat.reduceLeDiff, Nat.reduceSub, Nat.reducePow, Nat.reduceMul, Int.reduceToNat, Int.reduceLE, Int.reduceEq, Int.reduceLT, Int.reduceBEq, Int.reduceBNe]) ?_; simp only [intsP, AW, Nat.reduceAdd, reduceCtorEq, Nat.reduceEqDiff, ↓reduceIte, Nat.reduceLT, Nat.reduceLeDiff, Nat.reduceSub, Nat.reducePow, Nat.reduceMul, Int.reduceToNat, Int.reduceLE, Int.reduceEq, Int.reduceLT, Int.reduceBEq, Int.reduceBNe]
  cases n2 : numbersL (zipA a.into b.into)
  · rw [addC_4 ha hb hs (by rw [n1, n2]; rfl)]
    simp only [sumsP, n2, addP, zeroC, CountsS.pv, intP, AW, Nat.reduceAdd, reduceCtorEq, Nat.reduceEqDiff, ↓reduceIte, Nat.reduceLT, Nat.reduceLeDiff, Nat.reduceSub, Nat.reducePow, Nat.reduceMul, Int.reduceToNat, Int.reduceLE, Int.reduceEq, Int.reduceLT, Int.reduceBEq, Int.reduceBNe]
  rw [addC_5 ha hb hs (by rw [n1, n2]; rfl)]
  simp only [sumsP, n2, addP, CountsS.pv, intsP, intP, AW, Nat.reduceAdd, reduceCtorEq, Nat.reduceEqDiff, ↓reduceIte, Nat.reduceLT, Nat.reduceLeDiff, Nat.reduceSub, Nat.reducePow, Nat.reduceMul, Int.reduceToNat, Int.reduceLE, Int.reduceEq, Int.reduceLT, Int.reduceBEq, Int.reduceBNe]
set_option maxHeartbeats 4000000 in
theorem qadd_g (a b : CountsS) : Good Try.prog 19 [a.pv, b.pv] (addP (addC a b)) := by
  refine good19 (by simp) ?_
  simp only [ac19, CountsS.pv, AW, Nat.reduceAdd, reduceCtorEq, Nat.reduceEqDiff, ↓reduceIte, Nat.reduceLT, Nat.reduceLeDiff, Nat.reduceSub, Nat.reducePow, Nat.reduceMul, Int.reduceToNat, Int.reduceLE, Int.reduceEq, Int.reduceLT, Int.reduceBEq, Int.reduceBNe]
  refine ops_call (qcheckC_g a) (by simp only [CountsS.pv, intP, AW, Nat.reduceAdd, reduceCtorEq, Nat.reduceEqDiff, ↓reduceIte, Nat.reduceLT, Nat.reduceLeDiff, Nat.reduceSub, Nat.reducePow, Nat.reduceMul, Int.reduceToNat, Int.reduceLE, Int.reduceEq, Int.reduceLT, Int.reduceBEq, Int.reduceBNe]) ?_; simp only [CountsS.pv, intP, AW, Nat.reduceAdd, reduceCtorEq, Nat.reduceEqDiff, ↓reduceIte, Nat.reduceLT, Nat.reduceLeDiff, Nat.reduceSub, Nat.reducePow, Nat.reduceMul, Int.reduceToNat, Int.reduceLE, Int.reduceEq, Int.reduceLT, Int.reduceBEq, Int.reduceBNe]
  cases hc : (checkC a != 0)
  rotate_left
  · rw [addC_1 (by simpa using hc)]
    simp only [addP, zeroC, CountsS.pv, intP, AW, Nat.reduceAdd, reduceCtorEq, Nat.reduceEqDiff, ↓reduceIte, Nat.reduceLT, Nat.reduceLeDiff, Nat.reduceSub, Nat.reducePow, Nat.reduceMul, Int.reduceToNat, Int.reduceLE, Int.reduceEq, Int.reduceLT, Int.reduceBEq, Int.reduceBNe]
  have ha : checkC a = 0 := by simpa using hc
  simp only [AW, Nat.reduceAdd, reduceCtorEq, Nat.reduceEqDiff, ↓reduceIte, Nat.reduceLT, Nat.reduceLeDiff, Nat.reduceSub, Nat.reducePow, Nat.reduceMul, Int.reduceToNat, Int.reduceLE, Int.reduceEq, Int.reduceLT, Int.reduceBEq, Int.reduceBNe]
  refine ops_call (qcheckC_g b) (by simp only [CountsS.pv, intP, AW, Nat.reduceAdd, reduceCtorEq, Nat.reduceEqDiff, ↓reduceIte, Nat.reduceLT, Nat.reduceLeDiff, Nat.reduceSub, Nat.reducePow, Nat.reduceMul, Int.reduceToNat, Int.reduceLE, Int.reduceEq, Int.reduceLT, Int.reduceBEq, Int.reduceBNe]) ?_; simp only [CountsS.pv, intP, AW, Nat.reduceAdd, reduceCtorEq, Nat.reduceEqDiff, ↓reduceIte, Nat.reduceLT, Nat.reduceLeDiff, Nat.reduceSub, Nat.reducePow, Nat.reduceMul, Int.reduceToNat, Int.reduceLE, Int.reduceEq, Int.reduceLT, Int.reduceBEq, Int.reduceBNe]
  cases hd : (checkC b != 0)
  rotate_left
  · rw [addC_2 ha (by simpa using hd)]
    simp only [addP, zeroC, CountsS.pv, intP, AW, Nat.reduceAdd, reduceCtorEq, Nat.reduceEqDiff, ↓reduceIte, Nat.reduceLT, Nat.reduceLeDiff, Nat.reduceSub, Nat.reducePow, Nat.reduceMul, Int.reduceToNat, Int.reduceLE, Int.reduceEq, Int.reduceLT, Int.reduceBEq, Int.reduceBNe]
  have hb : checkC b = 0 := by simpa using hd
  simp only [AW, Nat.reduceAdd, reduceCtorEq, Nat.reduceEqDiff, ↓reduceIte, Nat.reduceLT, Nat.reduceLeDiff, Nat.reduceSub, Nat.reducePow, Nat.reduceMul, Int.reduceToNat, Int.reduceLE, Int.reduceEq, Int.reduceLT, Int.reduceBEq, Int.reduceBNe]
  cases c1 : (a.stations != b.stations)
  rotate_left
  · rw [addC_3 ha hb (by simpa using c1)]
    simp only [addP, zeroC, CountsS.pv, intP, AW, Nat.reduceAdd, reduceCtorEq, Nat.reduceEqDiff, ↓reduceIte, Nat.reduceLT, Nat.reduceLeDiff, Nat.reduceSub, Nat.reducePow, Nat.reduceMul, Int.reduceToNat, Int.reduceLE, Int.reduceEq, Int.reduceLT, Int.reduceBEq, Int.reduceBNe]
  have hs : a.stations = b.stations := by simpa using c1
  obtain ⟨a1, a2, a3, a4, a5⟩ := checkC_ok ha
  obtain ⟨b1, b2, b3, b4, b5⟩ := checkC_ok hb
  have h1 : a.out.length = b.out.length := by omega
  have h2 : a.into.length = b.into.length := by omega
  have h3 : a.into.length = a.out.length := by omega
  have hn : a.out.length ≤ 10000 := by omega
  have hlen : a.out.length ≤ maxLen := by unfold maxLen; omega
  have z1 := zipA_len h1
  have z2 := zipA_len h2
  simp only [AW, Nat.reduceAdd, reduceCtorEq, Nat.reduceEqDiff, ↓reduceIte, Nat.reduceLT, Nat.reduceLeDiff, Nat.reduceSub, Nat.reducePow, Nat.reduceMul, Int.reduceToNat, Int.reduceLE, Int.reduceEq, Int.reduceLT, Int.reduceBEq, Int.reduceBNe]
  refine run_loop (ι := Nat) (fun k => ⟨[(2, .ptr 0 0), (3, .ptr 1 0), (4, .ptr 2 0), (8, .ptr 22 0), (9, .sc (.int .i64 (k : Int)))], [(0, .var [.sc (.int .i64 a.stations), .sl (a.out.map intP), .sl (a.into.map intP)]), (1, .var [.sc (.int .i64 b.stations), .sl (b.out.map intP), .sl (b.into.map intP)]), (2, .var [.sc (.int .i64 0), .sc (.slice none 0 0), .sc (.slice none 0 0)]), (22, .var [.sc (.int .i64 a.stations), .own 25 0, .own 26 0]), (25, .row 3 1 0 (((zipA a.out b.out).take k).map intP)), (26, .row 3 1 0 (((zipA a.into b.into).take k).map intP))], 27, 82⟩) (fun k => k ≤ a.out.length) (fun k => a.out.length - k) 27 (fun _ => rfl) 0 (by simp only [LW, Nat.reduceMod, Nat.reduceDiv, Int.natCast_zero, List.take_zero, AW, Nat.reduceAdd, reduceCtorEq, Nat.reduceEqDiff, ↓reduceIte, Nat.reduceLT, Nat.reduceLeDiff, Nat.reduceSub, Nat.reducePow, Nat.reduceMul, Int.reduceToNat, Int.reduceLE, Int.reduceEq, Int.reduceLT, Int.reduceBEq, Int.reduceBNe]) (Nat.zero_le _) (fun k hk => ?_)
  have gk := hk
  by_cases hltk : k < a.out.length
  rotate_left
  · have dk : decide ((k : Int) < ((a.out.length : Nat) : Int)) = false := by rw [decide_eq_false_iff_not]; exact fun h => hltk (Int.ofNat_lt.1 h)
    have ek : k = a.out.length := Nat.le_antisymm gk (Nat.le_of_not_lt hltk)
    subst ek
    have t1 : (zipA a.out b.out).take a.out.length = zipA a.out b.out := List.take_of_length_le (by omega)
    have t2 : (zipA a.into b.into).take a.out.length = zipA a.into b.into := List.take_of_length_le (by omega)
    simp only [dk, t1, t2, AW, Nat.reduceAdd, reduceCtorEq, Nat.reduceEqDiff, ↓reduceIte, Nat.reduceLT, Nat.reduceLeDiff, Nat.reduceSub, Nat.reducePow, Nat.reduceMul, Int.reduceToNat, Int.reduceLE, Int.reduceEq, Int.reduceLT, Int.reduceBEq, Int.reduceBNe]
    refine ops_call (numbers_g (zipA a.out b.out)) (by simp only [intsP, AW, Nat.reduceAdd, reduceCtorEq, Nat.reduceEqDiff, ↓reduceIte, Nat.reduceLT, Nat.reduceLeDiff, Nat.reduceSub, Nat.reducePow, Nat.reduceMul, Int.reduceToNat, Int.reduceLE, Int.reduceEq, Int.reduceLT, Int.reduceBEq, Int.reduceBNe]) ?_; simp only [intsP, AW, Nat.reduceAdd, reduceCtorEq, Nat.reduceEqDiff, ↓reduceIte, Nat.reduceLT, Nat.reduceLeDiff, Nat.reduceSub, Nat.reducePow, Nat.reduceMul, Int.reduceToNat, Int.reduceLE, Int.reduceEq, Int.reduceLT, Int.reduceBEq, Int.reduceBNe]
    cases n1 : numbersL (zipA a.out b.out)
    · rw [addC_4 ha hb hs (by rw [n1]; rfl)]
      simp only [addP, zeroC, CountsS.pv, intP, AW, Nat.reduceAdd, reduceCtorEq, Nat.reduceEqDiff, ↓reduceIte, Nat.reduceLT, Nat.reduceLeDiff, Nat.reduceSub, Nat.reducePow, Nat.reduceMul, Int.reduceToNat, Int.reduceLE, Int.reduceEq, Int.reduceLT, Int.reduceBEq, Int.reduceBNe]
    simp only [AW, Nat.reduceAdd, reduceCtorEq, Nat.reduceEqDiff, ↓reduceIte, Nat.reduceLT, Nat.reduceLeDiff, Nat.reduceSub, Nat.reducePow, Nat.reduceMul, Int.reduceToNat, Int.reduceLE, Int.reduceEq, Int.reduceLT, Int.reduceBEq, Int.reduceBNe]
    refine ops_call (numbers_g (zipA a.into b.into)) (by simp only [intsP, AW, Nat.reduceAdd, reduceCtorEq, Nat.reduceEqDiff, ↓reduceIte, Nat.reduceLT, Nat.reduceLeDiff, Nat.reduceSub, Nat.reducePow, Nat.reduceMul, Int.reduceToNat, Int.reduceLE, Int.reduceEq, Int.reduceLT, Int.reduceBEq, Int.reduceBNe]) ?_; simp only [intsP, AW, Nat.reduceAdd, reduceCtorEq, Nat.reduceEqDiff, ↓reduceIte, Nat.reduceLT, Nat.reduceLeDiff, Nat.reduceSub, Nat.reducePow, Nat.reduceMul, Int.reduceToNat, Int.reduceLE, Int.reduceEq, Int.reduceLT, Int.reduceBEq, Int.reduceBNe]
    cases n2 : numbersL (zipA a.into b.into)
    · rw [addC_4 ha hb hs (by rw [n1, n2]; rfl)]
      simp only [addP, zeroC, CountsS.pv, intP, AW, Nat.reduceAdd, reduceCtorEq, Nat.reduceEqDiff, ↓reduceIte, Nat.reduceLT, Nat.reduceLeDiff, Nat.reduceSub, Nat.reducePow, Nat.reduceMul, Int.reduceToNat, Int.reduceLE, Int.reduceEq, Int.reduceLT, Int.reduceBEq, Int.reduceBNe]
    rw [addC_5 ha hb hs (by rw [n1, n2]; rfl)]
    simp only [addP, CountsS.pv, intP, AW, Nat.reduceAdd, reduceCtorEq, Nat.reduceEqDiff, ↓reduceIte, Nat.reduceLT, Nat.reduceLeDiff, Nat.reduceSub, Nat.reducePow, Nat.reduceMul, Int.reduceToNat, Int.reduceLE, Int.reduceEq, Int.reduceLT, Int.reduceBEq, Int.reduceBNe]
  have dk : decide ((k : Int) < ((a.out.length : Nat) : Int)) = true := by rw [decide_eq_true_eq]; exact Int.ofNat_lt.2 hltk
  have k1 : k < b.out.length := by omega
  have k2 : k < a.into.length := by omega
  have k3 : k < b.into.length := by omega
  have s1 : (zipA a.out b.out).take (k + 1) = (zipA a.out b.out).take k ++ [a.out[k] + b.out[k]] := by
    rw [List.take_succ_eq_append_getElem (by omega)]; congr 2; simp [zipA]
  have s2 : (zipA a.into b.into).take (k + 1) = (zipA a.into b.into).take k ++ [a.into[k] + b.into[k]] := by
    rw [List.take_succ_eq_append_getElem (by omega)]; congr 2; simp [zipA]
  have m1 : ((zipA a.out b.out).take k).length = k := by rw [List.length_take]; omega
  have m2 : ((zipA a.into b.into).take k).length = k := by rw [List.length_take]; omega
  have e1 : a.out.getD k 0 = a.out[k] := by rw [List.getD_eq_getElem?_getD, List.getElem?_eq_getElem hltk]; rfl
  have e2 : b.out.getD k 0 = b.out[k] := by rw [List.getD_eq_getElem?_getD, List.getElem?_eq_getElem k1]; rfl
  have e3 : a.into.getD k 0 = a.into[k] := by rw [List.getD_eq_getElem?_getD, List.getElem?_eq_getElem k2]; rfl
  have e4 : b.into.getD k 0 = b.into[k] := by rw [List.getD_eq_getElem?_getD, List.getElem?_eq_getElem k3]; rfl
  have g1 := getD_num a4 k
  have g2 := getD_num b4 k
  have g3 := getD_num a5 k
  have g4 := getD_num b5 k
  rw [e1] at g1; rw [e2] at g2; rw [e3] at g3; rw [e4] at g4
  have w1 : IntKind.wrap .i64 (a.out[k] + b.out[k]) = a.out[k] + b.out[k] := wrap_id (by unfold I64; omega)
  have w2 : IntKind.wrap .i64 (a.into[k] + b.into[k]) = a.into[k] + b.into[k] := wrap_id (by unfold I64; omega)
  have f1 : k + 1 ≤ maxLen := by omega
  have f2 : (k + 1) * 8 ≤ 140737488355328 := by omega
  simp only [dk, map_getD hltk, hltk, map_getD k1, k1, map_getD k2, k2, map_getD k3, k3, intP, w1, w2, m1, m2, f1, f2, AW, Nat.reduceAdd, reduceCtorEq, Nat.reduceEqDiff, ↓reduceIte, Nat.reduceLT, Nat.reduceLeDiff, Nat.reduceSub, Nat.reducePow, Nat.reduceMul, Int.reduceToNat, Int.reduceLE, Int.reduceEq, Int.reduceLT, Int.reduceBEq, Int.reduceBNe]
  refine ⟨rfl, ?_⟩; simp only [wrap_succ hltk hlen, AW, Nat.reduceAdd, reduceCtorEq, Nat.reduceEqDiff, ↓reduceIte, Nat.reduceLT, Nat.reduceLeDiff, Nat.reduceSub, Nat.reducePow, Nat.reduceMul, Int.reduceToNat, Int.reduceLE, Int.reduceEq, Int.reduceLT, Int.reduceBEq, Int.reduceBNe]
  refine ⟨k + 1, hltk, ?_, by omega⟩
  simp only [LW, Nat.reduceMod, Nat.reduceDiv, s1, s2, List.map_append, intP, AW, Nat.reduceAdd, reduceCtorEq, Nat.reduceEqDiff, ↓reduceIte, Nat.reduceLT, Nat.reduceLeDiff, Nat.reduceSub, Nat.reducePow, Nat.reduceMul, Int.reduceToNat, Int.reduceLE, Int.reduceEq, Int.reduceLT, Int.reduceBEq, Int.reduceBNe]


end Go.Proofs.Ytjobpjhmdbmdgaa
