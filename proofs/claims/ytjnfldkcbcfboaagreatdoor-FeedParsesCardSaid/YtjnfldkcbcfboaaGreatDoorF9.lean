/-
  What lines are read as.
-/
import Derived.Test.YtjnfldkcbcfboaaGreatDoorF8
namespace Go.Proofs.YtjnfldkcbcfboaaGreatDoor
open Go.RowKit
open Nat (reduceAdd reduceEqDiff reduceLT reduceLeDiff reduceSub reducePow reduceMul)
open Int (reduceToNat reduceLE reduceEq)
set_option linter.unusedVariables false
set_option linter.unusedSimpArgs false
set_option linter.unnecessarySimpa false


def cellT (b : Bool) (s : List UInt8) : List UInt8 := if (!b && decide (s = tX)) = true then [48] else s
def cellD (b : Bool) (s : List UInt8) : Int := numD (cellT b s)
def cellK (b : Bool) (s : List UInt8) : Bool := (numV (cellT b s)).isSome
def rowOkB (b : Bool) (C : Nat) (s : List UInt8) : Bool := wordOk s tRow && (if b = true then decide ((rowW s).length = C) else decide ((rowW s).length = C + 1) && (numV ((rowW s).getD C [])).isSome) && ((rowW s).take C).all (cellK b)
def cellsA (b : Bool) (C : Nat) (rs : List (List UInt8)) : List Int := rs.flatMap fun s => ((rowW s).take C).map (cellD b)
def hidsA (b : Bool) (C : Nat) (rs : List (List UInt8)) : List Bool := if b = true then [] else rs.flatMap fun s => ((rowW s).take C).map fun x => decide (x = tX)
def sumsA (b : Bool) (C : Nat) (rs : List (List UInt8)) : List Int := if b = true then [] else rs.map fun s => numD ((rowW s).getD C [])
def headN (l : List (List UInt8)) : List Int := (rowW (l.getD 0 [])).map numD
def lastW (l : List (List UInt8)) : List UInt8 := l.getD (l.length - 1) []
def lastN (l : List (List UInt8)) : List Int := (rowW (lastW l)).map numD
def midL (l : List (List UInt8)) : List (List UInt8) := (l.take (l.length - 1)).drop 1
def noiL (l : List (List UInt8)) : Bool := hpB (lastW l) tNoise
def colN (l : List (List UInt8)) : Nat := ((headN l).getD 4 0).toNat
def headOk (l : List (List UInt8)) : Bool := inB ((headN l).getD 3 0) 1 8 && inB ((headN l).getD 4 0) 1 8 && decide ((l.length : Int) = (headN l).getD 3 0 + 2)
def readOk (l : List (List UInt8)) : Bool := decide (2 < l.length) && wordOk (l.getD 0 []) tTrips && numsOk (rowW (l.getD 0 [])) && decide ((headN l).length = 5) && headOk l && wordOk (lastW l) (if noiL l = true then tNoise else tSums) && numsOk (rowW (lastW l)) && (midL l).all (rowOkB (noiL l) (colN l))
def readR (l : List (List UInt8)) : RelS := ⟨⟨(headN l).getD 0 0, (headN l).getD 1 0⟩, (headN l).getD 2 0, ⟨(headN l).getD 3 0, (headN l).getD 4 0, cellsA (noiL l) (colN l) (midL l)⟩, hidsA (noiL l) (colN l) (midL l), sumsA (noiL l) (colN l) (midL l), if noiL l = true then [] else lastN l, ⟨if noiL l = true then lastN l else []⟩⟩
def readO (l : List (List UInt8)) : Option PV := if readOk l = true then some (readR l).pv else none
theorem rowW_len (s : List UInt8) : (rowW s).length ≤ s.length := tail_len s
theorem rowW_mem {s x : List UInt8} (h : x ∈ rowW s) : x.length ≤ s.length := splitW_mem s x (List.mem_of_mem_tail h)
theorem flatMap_snoc {α β : Type} (f : α → List β) {l : List α} {k : Nat} (h : k < l.length) : (l.take (k + 1)).flatMap f = (l.take k).flatMap f ++ f l[k] := by
  rw [List.take_succ_eq_append_getElem h, List.flatMap_append]; simp
theorem cellsA_succ {b : Bool} {C : Nat} {rs : List (List UInt8)} {k : Nat} (h : k < rs.length) : cellsA b C (rs.take (k + 1)) = cellsA b C (rs.take k) ++ ((rowW rs[k]).take C).map (cellD b) := flatMap_snoc _ h
theorem hidsA_succ {C : Nat} {rs : List (List UInt8)} {k : Nat} (h : k < rs.length) : hidsA false C (rs.take (k + 1)) = hidsA false C (rs.take k) ++ ((rowW rs[k]).take C).map (fun x => decide (x = tX)) := by
  unfold hidsA; rw [if_neg (by decide), if_neg (by decide)]; exact flatMap_snoc _ h
theorem sumsA_succ {C : Nat} {rs : List (List UInt8)} {k : Nat} (h : k < rs.length) : sumsA false C (rs.take (k + 1)) = sumsA false C (rs.take k) ++ [numD ((rowW rs[k]).getD C [])] := by
  unfold sumsA; rw [if_neg (by decide), if_neg (by decide)]; exact take_snoc_map _ h
theorem flat_len {α β : Type} {f : α → List β} {C : Nat} (l : List α) (h : ∀ x ∈ l, (f x).length ≤ C) : (l.flatMap f).length ≤ l.length * C := by
  induction l with
  | nil => simp
  | cons x l ih =>
    have h1 := ih (fun y hy => h y (List.mem_cons_of_mem _ hy))
    have h2 := h x List.mem_cons_self
    rw [List.flatMap_cons, List.length_append, List.length_cons, Nat.add_mul]; omega
theorem cellsA_len (b : Bool) (C : Nat) (rs : List (List UInt8)) : (cellsA b C rs).length ≤ rs.length * C := flat_len rs (fun s _ => by rw [List.length_map, List.length_take]; omega)
theorem hidsA_len (b : Bool) (C : Nat) (rs : List (List UInt8)) : (hidsA b C rs).length ≤ rs.length * C := by
  unfold hidsA; split
  · simp
  · exact flat_len rs (fun s _ => by rw [List.length_map, List.length_take]; omega)
theorem sumsA_len (b : Bool) (C : Nat) (rs : List (List UInt8)) : (sumsA b C rs).length ≤ rs.length := by
  unfold sumsA; split
  · simp
  · rw [List.length_map]; omega
theorem none_of {l : List (List UInt8)} (h : readOk l = false) : readO l = none := by unfold readO; rw [h]; rfl
def vr0 (j : Nat) : Nat := if j = 0 then 1 else 0
theorem vr0_zero : vr0 0 = 1 := rfl
theorem vr0_succ (j : Nat) : vr0 (j + 1) = 0 := rfl
theorem vr0_pos {j : Nat} (h : 1 ≤ j) : vr0 j = 0 := if_neg (by omega)
def cP (b : Bool) (C : Nat) (rs : List (List UInt8)) (k : Nat) : List PV := (cellsA b C (rs.take k)).map intP
def hP (b : Bool) (C : Nat) (rs : List (List UInt8)) (k : Nat) : List PV := (hidsA b C (rs.take k)).map boolP
def sP (b : Bool) (C : Nat) (rs : List (List UInt8)) (k : Nat) : List PV := (sumsA b C (rs.take k)).map intP
def cJ (b : Bool) (C : Nat) (rs : List (List UInt8)) (k : Nat) (row : List (List UInt8)) (j : Nat) : List PV := cP b C rs k ++ ((row.take j).map (cellD b)).map intP
def hJ (b : Bool) (C : Nat) (rs : List (List UInt8)) (k : Nat) (row : List (List UInt8)) (j : Nat) : List PV := if b = true then hP b C rs k else hP b C rs k ++ ((row.take j).map fun x => decide (x = tX)).map boolP
theorem cP_zero (b : Bool) (C : Nat) (rs : List (List UInt8)) : cP b C rs 0 = [] := rfl
theorem hP_zero (b : Bool) (C : Nat) (rs : List (List UInt8)) : hP b C rs 0 = [] := by cases b <;> rfl
theorem sP_zero (b : Bool) (C : Nat) (rs : List (List UInt8)) : sP b C rs 0 = [] := by cases b <;> rfl
theorem cJ_zero (b : Bool) (C : Nat) (rs : List (List UInt8)) (k : Nat) (row : List (List UInt8)) : cJ b C rs k row 0 = cP b C rs k := by unfold cJ; simp
theorem hJ_zero (b : Bool) (C : Nat) (rs : List (List UInt8)) (k : Nat) (row : List (List UInt8)) : hJ b C rs k row 0 = hP b C rs k := by unfold hJ; split <;> simp
theorem cJ_succ {b : Bool} {C : Nat} {rs : List (List UInt8)} {k j : Nat} {row : List (List UInt8)} (h : j < row.length) : cJ b C rs k row (j + 1) = cJ b C rs k row j ++ [intP (cellD b row[j])] := by
  unfold cJ; rw [take_snoc_map _ h, List.map_append, List.append_assoc]; rfl
theorem hJ_succ {C : Nat} {rs : List (List UInt8)} {k j : Nat} {row : List (List UInt8)} (h : j < row.length) : hJ false C rs k row (j + 1) = hJ false C rs k row j ++ [boolP (decide (row[j] = tX))] := by
  unfold hJ; rw [if_neg (by decide), if_neg (by decide), take_snoc_map _ h, List.map_append, List.append_assoc]; rfl
theorem hJ_true (C : Nat) (rs : List (List UInt8)) (k j : Nat) (row : List (List UInt8)) : hJ true C rs k row j = hP true C rs k := if_pos rfl
theorem cJ_end {b : Bool} {C : Nat} {rs : List (List UInt8)} {k : Nat} (h : k < rs.length) (hr : ((rowW rs[k]).take C).length = C) : cJ b C rs k ((rowW rs[k]).take C) C = cP b C rs (k + 1) := by
  unfold cJ cP; rw [cellsA_succ h, List.map_append, List.take_of_length_le (Nat.le_of_eq hr)]
theorem hJ_end {b : Bool} {C : Nat} {rs : List (List UInt8)} {k : Nat} (h : k < rs.length) (hr : ((rowW rs[k]).take C).length = C) : hJ b C rs k ((rowW rs[k]).take C) C = hP b C rs (k + 1) := by
  unfold hJ hP
  cases b
  · rw [if_neg (by decide), hidsA_succ h, List.map_append, List.take_of_length_le (Nat.le_of_eq hr)]
  · rw [if_pos rfl]; rfl
theorem sP_succ {C : Nat} {rs : List (List UInt8)} {k : Nat} (h : k < rs.length) : sP false C rs (k + 1) = sP false C rs k ++ [intP (numD ((rowW rs[k]).getD C []))] := by
  unfold sP; rw [sumsA_succ h, List.map_append]; rfl
theorem sP_true (C : Nat) (rs : List (List UInt8)) (k : Nat) : sP true C rs (k + 1) = sP true C rs k := rfl
theorem hP_true (C : Nat) (rs : List (List UInt8)) (k : Nat) : hP true C rs (k + 1) = hP true C rs k := rfl
theorem cJ_len {b : Bool} {C : Nat} {rs : List (List UInt8)} {k j : Nat} {row : List (List UInt8)} (hr : rs.length ≤ 1000) (hc : C ≤ 8) (hw : row.length ≤ 8) : (cJ b C rs k row j).length ≤ 10000 := by
  unfold cJ cP
  have h1 := cellsA_len b C (rs.take k)
  have h2 : (rs.take k).length ≤ 1000 := by rw [List.length_take]; omega
  have h3 : (rs.take k).length * C ≤ 1000 * 8 := Nat.mul_le_mul h2 hc
  rw [List.length_append, List.length_map, List.length_map, List.length_map, List.length_take]; omega
theorem hJ_len {b : Bool} {C : Nat} {rs : List (List UInt8)} {k j : Nat} {row : List (List UInt8)} (hr : rs.length ≤ 1000) (hc : C ≤ 8) (hw : row.length ≤ 8) : (hJ b C rs k row j).length ≤ 10000 := by
  have h1 := hidsA_len b C (rs.take k)
  have h2 : (rs.take k).length ≤ 1000 := by rw [List.length_take]; omega
  have h3 : (rs.take k).length * C ≤ 1000 * 8 := Nat.mul_le_mul h2 hc
  unfold hJ hP
  split
  · rw [List.length_map]; omega
  · rw [List.length_append, List.length_map, List.length_map, List.length_map, List.length_take]; omega
theorem sP_len {b : Bool} {C : Nat} {rs : List (List UInt8)} {k : Nat} (hr : rs.length ≤ 1000) : (sP b C rs k).length ≤ 1000 := by
  have h1 := sumsA_len b C (rs.take k)
  have h2 : (rs.take k).length ≤ 1000 := by rw [List.length_take]; omega
  unfold sP; rw [List.length_map]; omega
theorem room10 {l : List PV} {n m : Nat} (h : l.length ≤ n) (hn : n ≤ 10000) (hm : m ≤ 8) : l.length + 1 ≤ maxLen ∧ (l.length + 1) * m ≤ 140737488355328 := by
  refine ⟨by unfold maxLen; omega, ?_⟩
  have : (l.length + 1) * m ≤ 10001 * 8 := Nat.mul_le_mul (by omega) hm
  omega
set_option maxHeartbeats 8000000 in
theorem read_g (l : List (List UInt8)) (hl : l.length ≤ 1000) (hs : ∀ s ∈ l, s.length ≤ 10000) : GoodE Tryz.prog 13 [.sl (l.map txP)] (readO l) mal := by
  have hmx : l.length ≤ maxLen := by unfold maxLen; omega
  refine goodE13 (by simp) ?_
  simp only [ac13, List.length_map, AW, reduceAdd, reduceCtorEq, reduceEqDiff, ↓reduceIte, reduceLT, reduceLeDiff, reduceSub, reducePow, reduceMul, reduceToNat, reduceLE, reduceEq, Int.reduceLT, Int.reduceBEq, Int.reduceBNe]
  by_cases k1 : 2 < l.length
  rotate_left
  · have no : readO l = none := none_of (by simp only [readOk, decide_eq_false k1, Bool.and_false, Bool.false_and])
    have d : decide ((2 : Int) < (l.length : Int)) = false := by rw [decide_eq_false_iff_not]; omega
    simp only [d, AW, reduceAdd, reduceCtorEq, reduceEqDiff, ↓reduceIte, reduceLT, reduceLeDiff, reduceSub, reducePow, reduceMul, reduceToNat, reduceLE, reduceEq, Int.reduceLT, Int.reduceBEq, Int.reduceBNe]
    refine ops_callE (must_no) (by simp only [AW, reduceAdd, reduceCtorEq, reduceEqDiff, ↓reduceIte, reduceLT, reduceLeDiff, reduceSub, reducePow, reduceMul, reduceToNat, reduceLE, reduceEq, Int.reduceLT, Int.reduceBEq, Int.reduceBNe]) (fun _ => ⟨by first | exact True.intro | (unfold dieOk; rfl), fun τ => ?_⟩) (fun _ h => by cases h); simp only [AW, reduceAdd, reduceCtorEq, reduceEqDiff, ↓reduceIte, reduceLT, reduceLeDiff, reduceSub, reducePow, reduceMul, reduceToNat, reduceLE, reduceEq, Int.reduceLT, Int.reduceBEq, Int.reduceBNe]
    exact no
  have d1 : decide ((2 : Int) < (l.length : Int)) = true := by rw [decide_eq_true_eq]; omega
  have l0 : 0 < l.length := by omega
  have l9 : l.length - 1 < l.length := by omega
  have e0 : l.getD 0 [] = l[0] := getD_get l0
  have e9 : lastW l = l[l.length - 1] := getD_get l9
  have w9 : IntKind.i64.wrap ((l.length : Int) - 1) = ((l.length - 1 : Nat) : Int) := wrap_prd l0 (Nat.lt_succ_self _) (by unfold maxLen; omega)
  simp only [d1, AW, reduceAdd, reduceCtorEq, reduceEqDiff, ↓reduceIte, reduceLT, reduceLeDiff, reduceSub, reducePow, reduceMul, reduceToNat, reduceLE, reduceEq, Int.reduceLT, Int.reduceBEq, Int.reduceBNe]
  refine ops_call (must_yes) (by simp only [AW, reduceAdd, reduceCtorEq, reduceEqDiff, ↓reduceIte, reduceLT, reduceLeDiff, reduceSub, reducePow, reduceMul, reduceToNat, reduceLE, reduceEq, Int.reduceLT, Int.reduceBEq, Int.reduceBNe]) ?_; simp only [AW, reduceAdd, reduceCtorEq, reduceEqDiff, ↓reduceIte, reduceLT, reduceLeDiff, reduceSub, reducePow, reduceMul, reduceToNat, reduceLE, reduceEq, Int.reduceLT, Int.reduceBEq, Int.reduceBNe]
  simp only [map_getD l0, l0, txP, List.length_map, AW, reduceAdd, reduceCtorEq, reduceEqDiff, ↓reduceIte, reduceLT, reduceLeDiff, reduceSub, reducePow, reduceMul, reduceToNat, reduceLE, reduceEq, Int.reduceLT, Int.reduceBEq, Int.reduceBNe]
  have hs0 := hs _ (List.getElem_mem l0)
  have gw := words_g l[0] tTrips (by omega)
  unfold wordsO at gw
  cases k2 : wordOk l[0] tTrips
  · rw [k2] at gw
    have no : readO l = none := none_of (by simp only [readOk, e0, k2, Bool.and_false, Bool.false_and])
    refine ops_callE (gw) (by simp only [txP, btTrips, AW, reduceAdd, reduceCtorEq, reduceEqDiff, ↓reduceIte, reduceLT, reduceLeDiff, reduceSub, reducePow, reduceMul, reduceToNat, reduceLE, reduceEq, Int.reduceLT, Int.reduceBEq, Int.reduceBNe]) (fun _ => ⟨by first | exact True.intro | (unfold dieOk; rfl), fun τ => ?_⟩) (fun _ h => by cases h); simp only [txP, btTrips, AW, reduceAdd, reduceCtorEq, reduceEqDiff, ↓reduceIte, reduceLT, reduceLeDiff, reduceSub, reducePow, reduceMul, reduceToNat, reduceLE, reduceEq, Int.reduceLT, Int.reduceBEq, Int.reduceBNe]
    exact no
  rw [k2, if_pos rfl] at gw
  refine ops_call (GoodE.some.1 gw) (by simp only [txP, btTrips, AW, reduceAdd, reduceCtorEq, reduceEqDiff, ↓reduceIte, reduceLT, reduceLeDiff, reduceSub, reducePow, reduceMul, reduceToNat, reduceLE, reduceEq, Int.reduceLT, Int.reduceBEq, Int.reduceBNe]) ?_; simp only [txP, btTrips, AW, reduceAdd, reduceCtorEq, reduceEqDiff, ↓reduceIte, reduceLT, reduceLeDiff, reduceSub, reducePow, reduceMul, reduceToNat, reduceLE, reduceEq, Int.reduceLT, Int.reduceBEq, Int.reduceBNe]
  have gn := numbers_g (rowW l[0]) (by have := rowW_len l[0]; omega) (fun s hm => by have := rowW_mem hm; omega)
  unfold numsO at gn
  have hrl : (rowW l[0]).length ≤ 10000 := by have := rowW_len l[0]; omega
  have eh : headN l = (rowW l[0]).map numD := by unfold headN; rw [e0]
  cases k3 : numsOk (rowW l[0])
  · rw [k3] at gn
    have no : readO l = none := none_of (by simp only [readOk, e0, k3, Bool.and_false, Bool.false_and])
    refine ops_callE (gn) (by simp only [AW, reduceAdd, reduceCtorEq, reduceEqDiff, ↓reduceIte, reduceLT, reduceLeDiff, reduceSub, reducePow, reduceMul, reduceToNat, reduceLE, reduceEq, Int.reduceLT, Int.reduceBEq, Int.reduceBNe]) (fun _ => ⟨by first | exact True.intro | (unfold dieOk; rfl), fun τ => ?_⟩) (fun _ h => by cases h); simp only [AW, reduceAdd, reduceCtorEq, reduceEqDiff, ↓reduceIte, reduceLT, reduceLeDiff, reduceSub, reducePow, reduceMul, reduceToNat, reduceLE, reduceEq, Int.reduceLT, Int.reduceBEq, Int.reduceBNe]
    exact no
  rw [k3, if_pos rfl, ← eh] at gn
  refine ops_call (GoodE.some.1 gn) (by simp only [intsP, AW, reduceAdd, reduceCtorEq, reduceEqDiff, ↓reduceIte, reduceLT, reduceLeDiff, reduceSub, reducePow, reduceMul, reduceToNat, reduceLE, reduceEq, Int.reduceLT, Int.reduceBEq, Int.reduceBNe]) ?_; simp only [intsP, AW, reduceAdd, reduceCtorEq, reduceEqDiff, ↓reduceIte, reduceLT, reduceLeDiff, reduceSub, reducePow, reduceMul, reduceToNat, reduceLE, reduceEq, Int.reduceLT, Int.reduceBEq, Int.reduceBNe]
  have hhl : (headN l).length ≤ 10000 := by rw [eh, List.length_map]; exact hrl
  by_cases k4 : (headN l).length = 5
  rotate_left
  · have no : readO l = none := none_of (by simp only [readOk, decide_eq_false k4, Bool.and_false, Bool.false_and])
    have d : (((headN l).length : Int) == 5) = false := by rw [beq_eq_false_iff_ne]; omega
    simp only [List.length_map, d, AW, reduceAdd, reduceCtorEq, reduceEqDiff, ↓reduceIte, reduceLT, reduceLeDiff, reduceSub, reducePow, reduceMul, reduceToNat, reduceLE, reduceEq, Int.reduceLT, Int.reduceBEq, Int.reduceBNe]
    refine ops_callE (must_no) (by simp only [AW, reduceAdd, reduceCtorEq, reduceEqDiff, ↓reduceIte, reduceLT, reduceLeDiff, reduceSub, reducePow, reduceMul, reduceToNat, reduceLE, reduceEq, Int.reduceLT, Int.reduceBEq, Int.reduceBNe]) (fun _ => ⟨by first | exact True.intro | (unfold dieOk; rfl), fun τ => ?_⟩) (fun _ h => by cases h); simp only [AW, reduceAdd, reduceCtorEq, reduceEqDiff, ↓reduceIte, reduceLT, reduceLeDiff, reduceSub, reducePow, reduceMul, reduceToNat, reduceLE, reduceEq, Int.reduceLT, Int.reduceBEq, Int.reduceBNe]
    exact no
  have d4 : (((headN l).length : Int) == 5) = true := by rw [beq_iff_eq]; omega
  simp only [List.length_map, d4, AW, reduceAdd, reduceCtorEq, reduceEqDiff, ↓reduceIte, reduceLT, reduceLeDiff, reduceSub, reducePow, reduceMul, reduceToNat, reduceLE, reduceEq, Int.reduceLT, Int.reduceBEq, Int.reduceBNe]
  refine ops_call (must_yes) (by simp only [AW, reduceAdd, reduceCtorEq, reduceEqDiff, ↓reduceIte, reduceLT, reduceLeDiff, reduceSub, reducePow, reduceMul, reduceToNat, reduceLE, reduceEq, Int.reduceLT, Int.reduceBEq, Int.reduceBNe]) ?_; simp only [AW, reduceAdd, reduceCtorEq, reduceEqDiff, ↓reduceIte, reduceLT, reduceLeDiff, reduceSub, reducePow, reduceMul, reduceToNat, reduceLE, reduceEq, Int.reduceLT, Int.reduceBEq, Int.reduceBNe]
  have q0 : 0 < (headN l).length := by omega
  have q1 : 1 < (headN l).length := by omega
  have q2 : 2 < (headN l).length := by omega
  have q3 : 3 < (headN l).length := by omega
  have q4 : 4 < (headN l).length := by omega
  have g0 : (headN l).getD 0 0 = (headN l)[0] := getD_get q0
  have g1 : (headN l).getD 1 0 = (headN l)[1] := getD_get q1
  have g2 : (headN l).getD 2 0 = (headN l)[2] := getD_get q2
  have g3 : (headN l).getD 3 0 = (headN l)[3] := getD_get q3
  have g4 : (headN l).getD 4 0 = (headN l)[4] := getD_get q4
  have rr : readR l = ⟨⟨(headN l)[0], (headN l)[1]⟩, (headN l)[2], ⟨(headN l)[3], (headN l)[4], cellsA (noiL l) (colN l) (midL l)⟩, hidsA (noiL l) (colN l) (midL l), sumsA (noiL l) (colN l) (midL l), if noiL l = true then [] else lastN l, ⟨if noiL l = true then lastN l else []⟩⟩ := by
    unfold readR; rw [g0, g1, g2, g3, g4]
  have kh : headOk l = (inB (headN l)[3] 1 8 && inB (headN l)[4] 1 8 && decide ((l.length : Int) = (headN l)[3] + 2)) := by unfold headOk; rw [g3, g4]
  have hC : colN l = (headN l)[4].toNat := by unfold colN; rw [g4]
  simp only [map_getD q0, map_getD q1, map_getD q2, map_getD q3, map_getD q4, q0, q1, q2, q3, q4, intP, List.length_map, AW, reduceAdd, reduceCtorEq, reduceEqDiff, ↓reduceIte, reduceLT, reduceLeDiff, reduceSub, reducePow, reduceMul, reduceToNat, reduceLE, reduceEq, Int.reduceLT, Int.reduceBEq, Int.reduceBNe]
  refine drawnK rfl ?_; (try simp only [AW, reduceAdd, reduceCtorEq, reduceEqDiff, ↓reduceIte, reduceLT, reduceLeDiff, reduceSub, reducePow, reduceMul, reduceToNat, reduceLE, reduceEq, Int.reduceLT, Int.reduceBEq, Int.reduceBNe])
  generalize (headN l)[0] = n0 at *
  generalize (headN l)[1] = n1 at *
  generalize (headN l)[2] = n2 at *
  generalize (headN l)[3] = n3 at *
  generalize (headN l)[4] = n4 at *
  clear g0 g1 g2 g3 g4 q0 q1 q2 q3 q4 d4 eh gn gw
  refine ops_call (in_g n3 1 8) (by simp only [intP, AW, reduceAdd, reduceCtorEq, reduceEqDiff, ↓reduceIte, reduceLT, reduceLeDiff, reduceSub, reducePow, reduceMul, reduceToNat, reduceLE, reduceEq, Int.reduceLT, Int.reduceBEq, Int.reduceBNe]) ?_; simp only [intP, AW, reduceAdd, reduceCtorEq, reduceEqDiff, ↓reduceIte, reduceLT, reduceLeDiff, reduceSub, reducePow, reduceMul, reduceToNat, reduceLE, reduceEq, Int.reduceLT, Int.reduceBEq, Int.reduceBNe]
  cases k5 : inB n3 1 8
  · have no : readO l = none := none_of (by simp only [readOk, kh, k5, Bool.and_false, Bool.false_and])
    simp only [AW, reduceAdd, reduceCtorEq, reduceEqDiff, ↓reduceIte, reduceLT, reduceLeDiff, reduceSub, reducePow, reduceMul, reduceToNat, reduceLE, reduceEq, Int.reduceLT, Int.reduceBEq, Int.reduceBNe]
    refine ops_callE (must_no) (by simp only [AW, reduceAdd, reduceCtorEq, reduceEqDiff, ↓reduceIte, reduceLT, reduceLeDiff, reduceSub, reducePow, reduceMul, reduceToNat, reduceLE, reduceEq, Int.reduceLT, Int.reduceBEq, Int.reduceBNe]) (fun _ => ⟨by first | exact True.intro | (unfold dieOk; rfl), fun τ => ?_⟩) (fun _ h => by cases h); simp only [AW, reduceAdd, reduceCtorEq, reduceEqDiff, ↓reduceIte, reduceLT, reduceLeDiff, reduceSub, reducePow, reduceMul, reduceToNat, reduceLE, reduceEq, Int.reduceLT, Int.reduceBEq, Int.reduceBNe]
    exact no
  obtain ⟨u1, u2⟩ := inB_iff.1 k5
  simp only [AW, reduceAdd, reduceCtorEq, reduceEqDiff, ↓reduceIte, reduceLT, reduceLeDiff, reduceSub, reducePow, reduceMul, reduceToNat, reduceLE, reduceEq, Int.reduceLT, Int.reduceBEq, Int.reduceBNe]
  refine ops_call (in_g n4 1 8) (by simp only [intP, AW, reduceAdd, reduceCtorEq, reduceEqDiff, ↓reduceIte, reduceLT, reduceLeDiff, reduceSub, reducePow, reduceMul, reduceToNat, reduceLE, reduceEq, Int.reduceLT, Int.reduceBEq, Int.reduceBNe]) ?_; simp only [intP, AW, reduceAdd, reduceCtorEq, reduceEqDiff, ↓reduceIte, reduceLT, reduceLeDiff, reduceSub, reducePow, reduceMul, reduceToNat, reduceLE, reduceEq, Int.reduceLT, Int.reduceBEq, Int.reduceBNe]
  cases k6 : inB n4 1 8
  · have no : readO l = none := none_of (by simp only [readOk, kh, k6, Bool.and_false, Bool.false_and])
    simp only [AW, reduceAdd, reduceCtorEq, reduceEqDiff, ↓reduceIte, reduceLT, reduceLeDiff, reduceSub, reducePow, reduceMul, reduceToNat, reduceLE, reduceEq, Int.reduceLT, Int.reduceBEq, Int.reduceBNe]
    refine ops_callE (must_no) (by simp only [AW, reduceAdd, reduceCtorEq, reduceEqDiff, ↓reduceIte, reduceLT, reduceLeDiff, reduceSub, reducePow, reduceMul, reduceToNat, reduceLE, reduceEq, Int.reduceLT, Int.reduceBEq, Int.reduceBNe]) (fun _ => ⟨by first | exact True.intro | (unfold dieOk; rfl), fun τ => ?_⟩) (fun _ h => by cases h); simp only [AW, reduceAdd, reduceCtorEq, reduceEqDiff, ↓reduceIte, reduceLT, reduceLeDiff, reduceSub, reducePow, reduceMul, reduceToNat, reduceLE, reduceEq, Int.reduceLT, Int.reduceBEq, Int.reduceBNe]
    exact no
  obtain ⟨u3, u4⟩ := inB_iff.1 k6
  have w3 : IntKind.i64.wrap (n3 + 2) = n3 + 2 := wrap_id ⟨by omega, by omega⟩
  by_cases k7 : (l.length : Int) = n3 + 2
  rotate_left
  · have no : readO l = none := none_of (by simp only [readOk, kh, decide_eq_false k7, Bool.and_false, Bool.false_and])
    have d : ((l.length : Int) == n3 + 2) = false := by rw [beq_eq_false_iff_ne]; exact k7
    simp only [w3, d, List.length_map, AW, reduceAdd, reduceCtorEq, reduceEqDiff, ↓reduceIte, reduceLT, reduceLeDiff, reduceSub, reducePow, reduceMul, reduceToNat, reduceLE, reduceEq, Int.reduceLT, Int.reduceBEq, Int.reduceBNe]
    refine ops_callE (must_no) (by simp only [AW, reduceAdd, reduceCtorEq, reduceEqDiff, ↓reduceIte, reduceLT, reduceLeDiff, reduceSub, reducePow, reduceMul, reduceToNat, reduceLE, reduceEq, Int.reduceLT, Int.reduceBEq, Int.reduceBNe]) (fun _ => ⟨by first | exact True.intro | (unfold dieOk; rfl), fun τ => ?_⟩) (fun _ h => by cases h); simp only [AW, reduceAdd, reduceCtorEq, reduceEqDiff, ↓reduceIte, reduceLT, reduceLeDiff, reduceSub, reducePow, reduceMul, reduceToNat, reduceLE, reduceEq, Int.reduceLT, Int.reduceBEq, Int.reduceBNe]
    exact no
  have d7 : ((l.length : Int) == n3 + 2) = true := by rw [beq_iff_eq]; exact k7
  have kh2 : headOk l = true := by rw [kh, k5, k6, decide_eq_true k7]; rfl
  obtain ⟨C, hC4⟩ : ∃ C : Nat, n4 = (C : Int) := ⟨n4.toNat, by omega⟩
  subst hC4
  have hC : colN l = C := by rw [hC]; rfl
  have c1 : 1 ≤ C := by omega
  have c8 : C ≤ 8 := by omega
  simp only [w3, d7, List.length_map, AW, reduceAdd, reduceCtorEq, reduceEqDiff, ↓reduceIte, reduceLT, reduceLeDiff, reduceSub, reducePow, reduceMul, reduceToNat, reduceLE, reduceEq, Int.reduceLT, Int.reduceBEq, Int.reduceBNe]
  refine ops_call (must_yes) (by simp only [AW, reduceAdd, reduceCtorEq, reduceEqDiff, ↓reduceIte, reduceLT, reduceLeDiff, reduceSub, reducePow, reduceMul, reduceToNat, reduceLE, reduceEq, Int.reduceLT, Int.reduceBEq, Int.reduceBNe]) ?_; simp only [AW, reduceAdd, reduceCtorEq, reduceEqDiff, ↓reduceIte, reduceLT, reduceLeDiff, reduceSub, reducePow, reduceMul, reduceToNat, reduceLE, reduceEq, Int.reduceLT, Int.reduceBEq, Int.reduceBNe]
  have gh := hp_g l[l.length - 1] tNoise
  have ehp : hpB l[l.length - 1] tNoise = noiL l := by unfold noiL; rw [e9]
  rw [ehp] at gh
  simp only [w9, l9, map_getD l9, txP, List.length_map, AW, reduceAdd, reduceCtorEq, reduceEqDiff, ↓reduceIte, reduceLT, reduceLeDiff, reduceSub, reducePow, reduceMul, reduceToNat, reduceLE, reduceEq, Int.reduceLT, Int.reduceBEq, Int.reduceBNe]
  refine ops_call (gh) (by simp only [txP, btNoise, AW, reduceAdd, reduceCtorEq, reduceEqDiff, ↓reduceIte, reduceLT, reduceLeDiff, reduceSub, reducePow, reduceMul, reduceToNat, reduceLE, reduceEq, Int.reduceLT, Int.reduceBEq, Int.reduceBNe]) ?_; simp only [txP, btNoise, AW, reduceAdd, reduceCtorEq, reduceEqDiff, ↓reduceIte, reduceLT, reduceLeDiff, reduceSub, reducePow, reduceMul, reduceToNat, reduceLE, reduceEq, Int.reduceLT, Int.reduceBEq, Int.reduceBNe]
  have hs9 := hs _ (List.getElem_mem l9)
  have hml : (midL l).length = l.length - 2 := by unfold midL; rw [List.length_drop, List.length_take]; omega
  have hm9 : ∀ s ∈ midL l, s.length ≤ 10000 := fun s hm => hs s (List.mem_of_mem_take (List.mem_of_mem_drop hm))
  have emid : ((l.map txP).take (l.length - 1)).drop 1 = (midL l).map txP := by unfold midL; rw [← List.map_take, ← List.map_drop]
  have ea : ((l.map txP).all fun p => p.flat.length == 1) = true := by rw [List.all_eq_true]; intro x hx; obtain ⟨y, _, rfl⟩ := List.mem_map.1 hx; rfl
  have v1 : 1 ≤ l.length - 1 := by omega
  have v2 : l.length - 1 ≤ l.length := by omega
  have gn := numbers_g (rowW l[l.length - 1]) (by have := rowW_len l[l.length - 1]; omega) (fun s hm => by have := rowW_mem hm; omega)
  unfold numsO at gn
  have eln : (rowW l[l.length - 1]).map numD = lastN l := by unfold lastN; rw [e9]
  rw [eln] at gn
  cases hb : noiL l
  · simp only [AW, reduceAdd, reduceCtorEq, reduceEqDiff, ↓reduceIte, reduceLT, reduceLeDiff, reduceSub, reducePow, reduceMul, reduceToNat, reduceLE, reduceEq, Int.reduceLT, Int.reduceBEq, Int.reduceBNe]
    have gw := words_g l[l.length - 1] tSums (by omega)
    unfold wordsO at gw
    cases k8 : wordOk l[l.length - 1] tSums
    · rw [k8] at gw
      have no : readO l = none := none_of (by simp only [readOk, e9, hb, if_true, if_false, Bool.false_eq_true, k8, Bool.and_false, Bool.false_and])
      refine ops_callE (gw) (by simp only [txP, btSums, AW, reduceAdd, reduceCtorEq, reduceEqDiff, ↓reduceIte, reduceLT, reduceLeDiff, reduceSub, reducePow, reduceMul, reduceToNat, reduceLE, reduceEq, Int.reduceLT, Int.reduceBEq, Int.reduceBNe]) (fun _ => ⟨by first | exact True.intro | (unfold dieOk; rfl), fun τ => ?_⟩) (fun _ h => by cases h); simp only [txP, btSums, AW, reduceAdd, reduceCtorEq, reduceEqDiff, ↓reduceIte, reduceLT, reduceLeDiff, reduceSub, reducePow, reduceMul, reduceToNat, reduceLE, reduceEq, Int.reduceLT, Int.reduceBEq, Int.reduceBNe]
      exact no
    rw [k8, if_pos rfl] at gw
    refine ops_call (GoodE.some.1 gw) (by simp only [txP, btSums, AW, reduceAdd, reduceCtorEq, reduceEqDiff, ↓reduceIte, reduceLT, reduceLeDiff, reduceSub, reducePow, reduceMul, reduceToNat, reduceLE, reduceEq, Int.reduceLT, Int.reduceBEq, Int.reduceBNe]) ?_; simp only [txP, btSums, AW, reduceAdd, reduceCtorEq, reduceEqDiff, ↓reduceIte, reduceLT, reduceLeDiff, reduceSub, reducePow, reduceMul, reduceToNat, reduceLE, reduceEq, Int.reduceLT, Int.reduceBEq, Int.reduceBNe]
    cases k9 : numsOk (rowW l[l.length - 1])
    · rw [k9] at gn
      have no : readO l = none := none_of (by simp only [readOk, e9, k9, Bool.and_false, Bool.false_and])
      refine ops_callE (gn) (by simp only [AW, reduceAdd, reduceCtorEq, reduceEqDiff, ↓reduceIte, reduceLT, reduceLeDiff, reduceSub, reducePow, reduceMul, reduceToNat, reduceLE, reduceEq, Int.reduceLT, Int.reduceBEq, Int.reduceBNe]) (fun _ => ⟨by first | exact True.intro | (unfold dieOk; rfl), fun τ => ?_⟩) (fun _ h => by cases h); simp only [AW, reduceAdd, reduceCtorEq, reduceEqDiff, ↓reduceIte, reduceLT, reduceLeDiff, reduceSub, reducePow, reduceMul, reduceToNat, reduceLE, reduceEq, Int.reduceLT, Int.reduceBEq, Int.reduceBNe]
      exact no
    rw [k9, if_pos rfl] at gn
    refine ops_call (GoodE.some.1 gn) (by simp only [intsP, AW, reduceAdd, reduceCtorEq, reduceEqDiff, ↓reduceIte, reduceLT, reduceLeDiff, reduceSub, reducePow, reduceMul, reduceToNat, reduceLE, reduceEq, Int.reduceLT, Int.reduceBEq, Int.reduceBNe]) ?_; simp only [intsP, AW, reduceAdd, reduceCtorEq, reduceEqDiff, ↓reduceIte, reduceLT, reduceLeDiff, reduceSub, reducePow, reduceMul, reduceToNat, reduceLE, reduceEq, Int.reduceLT, Int.reduceBEq, Int.reduceBNe]
    simp only [w9, v1, v2, ea, emid, List.length_map, true_or, or_true, AW, reduceAdd, reduceCtorEq, reduceEqDiff, ↓reduceIte, reduceLT, reduceLeDiff, reduceSub, reducePow, reduceMul, reduceToNat, reduceLE, reduceEq, Int.reduceLT, Int.reduceBEq, Int.reduceBNe]
    clear gn gw
    refine run_loop (ι := Nat) (fun k => ⟨[(2, .ptr 0 0), (4, .ptr 33 0), (6, .sc (.bool false)), (86, .sl ((midL l).map txP)), (87, .sc (.int .i64 ((midL l).length : Int))), (88, .sc (.int .i64 (k : Int)))], [(0, .var [.sc (.int .i64 0), .sc (.int .i64 0), .sc (.int .i64 0), .sc (.int .i64 0), .sc (.int .i64 0), .sc (.slice none 0 0), .sc (.slice none 0 0), .sc (.slice none 0 0), .sc (.slice none 0 0), .sc (.slice none 0 0)]), (33, .var [.sc (.int .i64 n0), .sc (.int .i64 n1), .sc (.int .i64 n2), .sc (.int .i64 n3), .sc (.int .i64 (C : Int)), .own 78 0, .own 79 0, .own 80 0, .sl ((lastN l).map intP), .sc (.slice none 0 0)]), (78, .row 3 1 0 (cP false C (midL l) k)), (79, .row 4 1 0 (hP false C (midL l) k)), (80, .row 3 1 0 (sP false C (midL l) k))], 81, 161⟩) (fun k => k ≤ (midL l).length ∧ (∀ i (hi : i < (midL l).length), i < k → rowOkB false C (midL l)[i] = true)) (fun k => (midL l).length - k) 81 (fun _ => rfl) 0 (by simp only [LW, Nat.reduceMod, Nat.reduceDiv, Int.natCast_zero, cP_zero, hP_zero, sP_zero, List.map_nil, List.length_map, Nat.zero_lt_one, AW, reduceAdd, reduceCtorEq, reduceEqDiff, ↓reduceIte, reduceLT, reduceLeDiff, reduceSub, reducePow, reduceMul, reduceToNat, reduceLE, reduceEq, Int.reduceLT, Int.reduceBEq, Int.reduceBNe]) ⟨Nat.zero_le _, nofun⟩ (fun k hk => ?_)
    obtain ⟨gk, ik⟩ := hk
    by_cases hltk : k < (midL l).length
    rotate_left
    · have dk : decide ((k : Int) < (((midL l).length : Nat) : Int)) = false := by rw [decide_eq_false_iff_not]; exact fun h => hltk (Int.ofNat_lt.1 h)
      have ek : k = (midL l).length := Nat.le_antisymm gk (Nat.le_of_not_lt hltk)
      subst ek
      have hall : readOk l = true := by
        have ha : (midL l).all (rowOkB (noiL l) (colN l)) = true := by rw [hb, hC]; exact all_yes (fun j hj => ik j hj hj)
        have hw9 : wordOk (lastW l) (if noiL l = true then tNoise else tSums) = true := by rw [hb, e9]; exact k8
        unfold readOk
        rw [decide_eq_true k1, e0, k2, k3, decide_eq_true k4, kh2, hw9, e9, k9, ha]; rfl
      have hrr : readO l = some (readR l).pv := by unfold readO; rw [if_pos hall]
      simp only [dk, List.length_map, AW, reduceAdd, reduceCtorEq, reduceEqDiff, ↓reduceIte, reduceLT, reduceLeDiff, reduceSub, reducePow, reduceMul, reduceToNat, reduceLE, reduceEq, Int.reduceLT, Int.reduceBEq, Int.reduceBNe]
      refine ⟨_, hrr, ?_⟩
      rw [rr, hb, hC]
      unfold cP hP sP
      rw [List.take_length]
      simp only [RelS.pv, if_false, Bool.false_eq_true, hidsA, sumsA, List.map_nil]
    have dk : decide ((k : Int) < (((midL l).length : Nat) : Int)) = true := by rw [decide_eq_true_eq]; exact Int.ofNat_lt.2 hltk
    have norow : rowOkB false C (midL l)[k] = false → readO l = none := fun h => none_of (by
      have ha : (midL l).all (rowOkB (noiL l) (colN l)) = false := by rw [hb, hC]; exact all_no hltk h
      simp only [readOk, ha, Bool.and_false])
    have hsk := hm9 _ (List.getElem_mem hltk)
    have gw := words_g (midL l)[k] tRow (by omega)
    unfold wordsO at gw
    have gwl := rowW_len (midL l)[k]
    have gwm : ∀ x ∈ rowW (midL l)[k], x.length ≤ 10000 := fun x hx => by have := rowW_mem hx; omega
    have hm1000 : (midL l).length ≤ 1000 := by omega
    have hmx2 : (midL l).length ≤ maxLen := by unfold maxLen; omega
    simp only [dk, map_getD hltk, hltk, txP, List.length_map, AW, reduceAdd, reduceCtorEq, reduceEqDiff, ↓reduceIte, reduceLT, reduceLeDiff, reduceSub, reducePow, reduceMul, reduceToNat, reduceLE, reduceEq, Int.reduceLT, Int.reduceBEq, Int.reduceBNe]
    cases m1 : wordOk (midL l)[k] tRow
    · rw [m1] at gw
      have no := norow (by unfold rowOkB; rw [m1]; rfl)
      refine ops_callE (gw) (by simp only [txP, btRow, AW, reduceAdd, reduceCtorEq, reduceEqDiff, ↓reduceIte, reduceLT, reduceLeDiff, reduceSub, reducePow, reduceMul, reduceToNat, reduceLE, reduceEq, Int.reduceLT, Int.reduceBEq, Int.reduceBNe]) (fun _ => ⟨by first | exact True.intro | (unfold dieOk; rfl), fun τ => ?_⟩) (fun _ h => by cases h); simp only [txP, btRow, AW, reduceAdd, reduceCtorEq, reduceEqDiff, ↓reduceIte, reduceLT, reduceLeDiff, reduceSub, reducePow, reduceMul, reduceToNat, reduceLE, reduceEq, Int.reduceLT, Int.reduceBEq, Int.reduceBNe]
      exact no
    rw [m1, if_pos rfl] at gw
    refine ops_call (GoodE.some.1 gw) (by simp only [txP, btRow, AW, reduceAdd, reduceCtorEq, reduceEqDiff, ↓reduceIte, reduceLT, reduceLeDiff, reduceSub, reducePow, reduceMul, reduceToNat, reduceLE, reduceEq, Int.reduceLT, Int.reduceBEq, Int.reduceBNe]) ?_; simp only [txP, btRow, AW, reduceAdd, reduceCtorEq, reduceEqDiff, ↓reduceIte, reduceLT, reduceLeDiff, reduceSub, reducePow, reduceMul, reduceToNat, reduceLE, reduceEq, Int.reduceLT, Int.reduceBEq, Int.reduceBNe]
    clear gw
    have wC : IntKind.i64.wrap ((C : Int) + 1) = (C : Int) + 1 := wrap_id ⟨by omega, by omega⟩
    by_cases m2 : (rowW (midL l)[k]).length = C + 1
    rotate_left
    · have no := norow (by unfold rowOkB; rw [if_neg (by decide), decide_eq_false m2, Bool.false_and, Bool.and_false, Bool.false_and])
      have d : (((rowW (midL l)[k]).length : Int) == (C : Int) + 1) = false := by rw [beq_eq_false_iff_ne]; omega
      simp only [List.length_map, wC, d, AW, reduceAdd, reduceCtorEq, reduceEqDiff, ↓reduceIte, reduceLT, reduceLeDiff, reduceSub, reducePow, reduceMul, reduceToNat, reduceLE, reduceEq, Int.reduceLT, Int.reduceBEq, Int.reduceBNe]
      refine ops_callE (must_no) (by simp only [AW, reduceAdd, reduceCtorEq, reduceEqDiff, ↓reduceIte, reduceLT, reduceLeDiff, reduceSub, reducePow, reduceMul, reduceToNat, reduceLE, reduceEq, Int.reduceLT, Int.reduceBEq, Int.reduceBNe]) (fun _ => ⟨by first | exact True.intro | (unfold dieOk; rfl), fun τ => ?_⟩) (fun _ h => by cases h); simp only [AW, reduceAdd, reduceCtorEq, reduceEqDiff, ↓reduceIte, reduceLT, reduceLeDiff, reduceSub, reducePow, reduceMul, reduceToNat, reduceLE, reduceEq, Int.reduceLT, Int.reduceBEq, Int.reduceBNe]
      exact no
    have d2 : (((rowW (midL l)[k]).length : Int) == (C : Int) + 1) = true := by rw [beq_iff_eq]; omega
    have mC : C < (rowW (midL l)[k]).length := by omega
    have egC : (rowW (midL l)[k]).getD C [] = (rowW (midL l)[k])[C] := getD_get mC
    have gnr := number_g (rowW (midL l)[k])[C] (by have := gwm _ (List.getElem_mem mC); omega)
    have es3 := sP_succ (C := C) hltk
    rw [egC] at es3
    have ⟨b2, b3⟩ := room10 (m := 8) (sP_len (b := false) (C := C) (rs := midL l) (k := k) hm1000) (by decide) (by decide)
    simp only [List.length_map, wC, d2, AW, reduceAdd, reduceCtorEq, reduceEqDiff, ↓reduceIte, reduceLT, reduceLeDiff, reduceSub, reducePow, reduceMul, reduceToNat, reduceLE, reduceEq, Int.reduceLT, Int.reduceBEq, Int.reduceBNe]
    refine ops_call (must_yes) (by simp only [AW, reduceAdd, reduceCtorEq, reduceEqDiff, ↓reduceIte, reduceLT, reduceLeDiff, reduceSub, reducePow, reduceMul, reduceToNat, reduceLE, reduceEq, Int.reduceLT, Int.reduceBEq, Int.reduceBNe]) ?_; simp only [AW, reduceAdd, reduceCtorEq, reduceEqDiff, ↓reduceIte, reduceLT, reduceLeDiff, reduceSub, reducePow, reduceMul, reduceToNat, reduceLE, reduceEq, Int.reduceLT, Int.reduceBEq, Int.reduceBNe]
    simp only [map_getD mC, mC, txP, List.length_map, AW, reduceAdd, reduceCtorEq, reduceEqDiff, ↓reduceIte, reduceLT, reduceLeDiff, reduceSub, reducePow, reduceMul, reduceToNat, reduceLE, reduceEq, Int.reduceLT, Int.reduceBEq, Int.reduceBNe]
    cases m3 : numV (rowW (midL l)[k])[C] with
    | none =>
      rw [m3] at gnr
      have no := norow (by unfold rowOkB; rw [if_neg (by decide), egC, m3, Option.isSome_none, Bool.and_false, Bool.and_false, Bool.false_and])
      refine ops_callE (gnr) (by simp only [txP, AW, reduceAdd, reduceCtorEq, reduceEqDiff, ↓reduceIte, reduceLT, reduceLeDiff, reduceSub, reducePow, reduceMul, reduceToNat, reduceLE, reduceEq, Int.reduceLT, Int.reduceBEq, Int.reduceBNe]) (fun _ => ⟨by first | exact True.intro | (unfold dieOk; rfl), fun τ => ?_⟩) (fun _ h => by cases h); simp only [txP, AW, reduceAdd, reduceCtorEq, reduceEqDiff, ↓reduceIte, reduceLT, reduceLeDiff, reduceSub, reducePow, reduceMul, reduceToNat, reduceLE, reduceEq, Int.reduceLT, Int.reduceBEq, Int.reduceBNe]
      exact no
    | some v =>
    rw [m3] at gnr
    have hd : numD (rowW (midL l)[k])[C] = v := by unfold numD; rw [m3]; rfl
    rw [hd] at es3
    refine ops_call (GoodE.some.1 gnr) (by simp only [txP, intP, AW, reduceAdd, reduceCtorEq, reduceEqDiff, ↓reduceIte, reduceLT, reduceLeDiff, reduceSub, reducePow, reduceMul, reduceToNat, reduceLE, reduceEq, Int.reduceLT, Int.reduceBEq, Int.reduceBNe]) ?_; simp only [txP, intP, AW, reduceAdd, reduceCtorEq, reduceEqDiff, ↓reduceIte, reduceLT, reduceLeDiff, reduceSub, reducePow, reduceMul, reduceToNat, reduceLE, reduceEq, Int.reduceLT, Int.reduceBEq, Int.reduceBNe]
    simp only [b2, b3, AW, reduceAdd, reduceCtorEq, reduceEqDiff, ↓reduceIte, reduceLT, reduceLeDiff, reduceSub, reducePow, reduceMul, reduceToNat, reduceLE, reduceEq, Int.reduceLT, Int.reduceBEq, Int.reduceBNe]
    refine drawnK rfl ?_; (try simp only [AW, reduceAdd, reduceCtorEq, reduceEqDiff, ↓reduceIte, reduceLT, reduceLeDiff, reduceSub, reducePow, reduceMul, reduceToNat, reduceLE, reduceEq, Int.reduceLT, Int.reduceBEq, Int.reduceBNe])
    obtain ⟨row, hrow⟩ : ∃ r, r = (rowW (midL l)[k]).take C := ⟨_, rfl⟩
    have hrl2 : row.length = C := by rw [hrow, List.length_take]; omega
    have hrm : ∀ x ∈ row, x.length ≤ 10000 := fun x hx => gwm x (List.mem_of_mem_take (by rw [← hrow]; exact hx))
    have hrs : (rowW (midL l)[k]).take C = row := hrow.symm
    have dC : ((C : Int) == (C : Int)) = true := by simp
    have etk2 : ((rowW (midL l)[k]).map txP).take C = row.map txP := by rw [hrow, List.map_take]
    have za : (((rowW (midL l)[k]).map txP).all fun p => p.flat.length == 1) = true := by rw [List.all_eq_true]; intro x hx; obtain ⟨y, _, rfl⟩ := List.mem_map.1 hx; rfl
    simp only [List.length_map, Nat.le_of_lt mC, za, etk2, hrl2, dC, AW, reduceAdd, reduceCtorEq, reduceEqDiff, ↓reduceIte, reduceLT, reduceLeDiff, reduceSub, reducePow, reduceMul, reduceToNat, reduceLE, reduceEq, Int.reduceLT, Int.reduceBEq, Int.reduceBNe]
    refine ops_call (must_yes) (by simp only [AW, reduceAdd, reduceCtorEq, reduceEqDiff, ↓reduceIte, reduceLT, reduceLeDiff, reduceSub, reducePow, reduceMul, reduceToNat, reduceLE, reduceEq, Int.reduceLT, Int.reduceBEq, Int.reduceBNe]) ?_; simp only [AW, reduceAdd, reduceCtorEq, reduceEqDiff, ↓reduceIte, reduceLT, reduceLeDiff, reduceSub, reducePow, reduceMul, reduceToNat, reduceLE, reduceEq, Int.reduceLT, Int.reduceBEq, Int.reduceBNe]
    simp only [List.length_map, hrl2, AW, reduceAdd, reduceCtorEq, reduceEqDiff, ↓reduceIte, reduceLT, reduceLeDiff, reduceSub, reducePow, reduceMul, reduceToNat, reduceLE, reduceEq, Int.reduceLT, Int.reduceBEq, Int.reduceBNe]
    refine run_loop (ι := Nat) (fun j => ⟨[(2, .ptr 0 0), (4, .ptr 33 0), (6, .sc (.bool false)), (86, .sl ((midL l).map txP)), (87, .sc (.int .i64 ((midL l).length : Int))), (88, .sc (.int .i64 (k : Int))), (128, .sl (row.map txP)), (129, .sc (.int .i64 (C : Int))), (130, .sc (.int .i64 (j : Int)))], [(0, .var [.sc (.int .i64 0), .sc (.int .i64 0), .sc (.int .i64 0), .sc (.int .i64 0), .sc (.int .i64 0), .sc (.slice none 0 0), .sc (.slice none 0 0), .sc (.slice none 0 0), .sc (.slice none 0 0), .sc (.slice none 0 0)]), (33, .var [.sc (.int .i64 n0), .sc (.int .i64 n1), .sc (.int .i64 n2), .sc (.int .i64 n3), .sc (.int .i64 (C : Int)), .own 78 0, .own 79 0, .own 80 (vr0 j), .sl ((lastN l).map intP), .sc (.slice none 0 0)]), (78, .row 3 1 0 (cJ false C (midL l) k row j)), (79, .row 4 1 0 (hJ false C (midL l) k row j)), (80, .row 3 1 (vr0 j) (sP false C (midL l) (k + 1))), (107, .row 3 1 0 [.sc (.int .i64 v)])], 127, 161⟩) (fun j => j ≤ C ∧ (∀ i (hi : i < row.length), i < j → cellK false row[i] = true)) (fun j => C - j) 127 (fun _ => rfl) 0 (by simp only [LW, Nat.reduceMod, Nat.reduceDiv, Int.natCast_zero, cJ_zero, hJ_zero, vr0_zero, es3, intP, List.length_map, AW, reduceAdd, reduceCtorEq, reduceEqDiff, ↓reduceIte, reduceLT, reduceLeDiff, reduceSub, reducePow, reduceMul, reduceToNat, reduceLE, reduceEq, Int.reduceLT, Int.reduceBEq, Int.reduceBNe]) ⟨Nat.zero_le _, nofun⟩ (fun j hj => ?_)
    obtain ⟨gj, ij⟩ := hj
    by_cases hltj : j < C
    rotate_left
    · have dj : decide ((j : Int) < ((C : Nat) : Int)) = false := by rw [decide_eq_false_iff_not]; exact fun h => hltj (Int.ofNat_lt.1 h)
      have ej : j = C := Nat.le_antisymm gj (Nat.le_of_not_lt hltj)
      rw [ej]
      have hok : rowOkB false C (midL l)[k] = true := by
        unfold rowOkB
        rw [m1, if_neg (by decide), decide_eq_true m2, egC, m3, Option.isSome_some, hrs, all_yes (p := cellK false) (fun i hi => ij i hi (by omega))]; rfl
      have ec := cJ_end (b := false) hltk (by rw [hrs]; exact hrl2)
      have eh := hJ_end (b := false) hltk (by rw [hrs]; exact hrl2)
      rw [hrs] at ec eh
      rw [ec, eh]
      have dC2 : decide ((C : Int) < (C : Int)) = false := by rw [decide_eq_false_iff_not]; omega
      simp only [dC2, AW, reduceAdd, reduceCtorEq, reduceEqDiff, ↓reduceIte, reduceLT, reduceLeDiff, reduceSub, reducePow, reduceMul, reduceToNat, reduceLE, reduceEq, Int.reduceLT, Int.reduceBEq, Int.reduceBNe]
      (try simp only [wrap_succ hltk hmx2, AW, reduceAdd, reduceCtorEq, reduceEqDiff, ↓reduceIte, reduceLT, reduceLeDiff, reduceSub, reducePow, reduceMul, reduceToNat, reduceLE, reduceEq, Int.reduceLT, Int.reduceBEq, Int.reduceBNe])
      refine ⟨k + 1, ⟨hltk, fun i hi hik => ?_⟩, ?_, meas_lt hltk⟩
      · by_cases e : i = k
        · subst e; exact hok
        · exact ik i hi (by omega)
      · simp only [LW, Nat.reduceMod, Nat.reduceDiv, vr0_pos c1, AW, reduceAdd, reduceCtorEq, reduceEqDiff, ↓reduceIte, reduceLT, reduceLeDiff, reduceSub, reducePow, reduceMul, reduceToNat, reduceLE, reduceEq, Int.reduceLT, Int.reduceBEq, Int.reduceBNe]
    have dj : decide ((j : Int) < ((C : Nat) : Int)) = true := by rw [decide_eq_true_eq]; exact Int.ofNat_lt.2 hltj
    have hjr : j < row.length := by omega
    have hsj := hrm _ (List.getElem_mem hjr)
    have nocell : cellK false row[j] = false → readO l = none := fun h => norow (by
      unfold rowOkB
      rw [hrs, all_no hjr h, Bool.and_false])
    have ec := cJ_succ (b := false) (C := C) (rs := midL l) (k := k) hjr
    have ⟨b5, b6⟩ := room10 (m := 8) (cJ_len (b := false) (C := C) (rs := midL l) (k := k) (j := j) (row := row) hm1000 c8 (by omega)) (by decide) (by decide)
    have eh := hJ_succ (C := C) (rs := midL l) (k := k) hjr
    have ⟨b7, b8⟩ := room10 (m := 1) (hJ_len (b := false) (C := C) (rs := midL l) (k := k) (j := j) (row := row) hm1000 c8 (by omega)) (by decide) (by decide)
    rw [Nat.mul_one] at b8
    obtain ⟨vj, hvj⟩ : ∃ v, vr0 j = v := ⟨_, rfl⟩
    rw [hvj]
    simp only [dj, map_getD hjr, hjr, txP, bA_beq, btX, AW, reduceAdd, reduceCtorEq, reduceEqDiff, ↓reduceIte, reduceLT, reduceLeDiff, reduceSub, reducePow, reduceMul, reduceToNat, reduceLE, reduceEq, Int.reduceLT, Int.reduceBEq, Int.reduceBNe]
    cases hx : decide (row[j] = tX)
    · have ect : cellT false row[j] = row[j] := by unfold cellT; rw [hx]; rfl
      have gc := number_g row[j] (by omega)
      rw [hx] at eh
      simp only [b7, b8, Nat.mul_one, AW, reduceAdd, reduceCtorEq, reduceEqDiff, ↓reduceIte, reduceLT, reduceLeDiff, reduceSub, reducePow, reduceMul, reduceToNat, reduceLE, reduceEq, Int.reduceLT, Int.reduceBEq, Int.reduceBNe]
      cases m4 : numV row[j] with
      | none =>
        rw [m4] at gc
        have no := nocell (by unfold cellK; rw [ect, m4]; rfl)
        refine ops_callE (gc) (by simp only [txP, AW, reduceAdd, reduceCtorEq, reduceEqDiff, ↓reduceIte, reduceLT, reduceLeDiff, reduceSub, reducePow, reduceMul, reduceToNat, reduceLE, reduceEq, Int.reduceLT, Int.reduceBEq, Int.reduceBNe]) (fun _ => ⟨by first | exact True.intro | (unfold dieOk; rfl), fun τ => ?_⟩) (fun _ h => by cases h); simp only [txP, AW, reduceAdd, reduceCtorEq, reduceEqDiff, ↓reduceIte, reduceLT, reduceLeDiff, reduceSub, reducePow, reduceMul, reduceToNat, reduceLE, reduceEq, Int.reduceLT, Int.reduceBEq, Int.reduceBNe]
        exact no
      | some v2 =>
        rw [m4] at gc
        have hd2 : cellD false row[j] = v2 := by unfold cellD numD; rw [ect, m4]; rfl
        rw [hd2] at ec
        refine ops_call (GoodE.some.1 gc) (by simp only [txP, intP, AW, reduceAdd, reduceCtorEq, reduceEqDiff, ↓reduceIte, reduceLT, reduceLeDiff, reduceSub, reducePow, reduceMul, reduceToNat, reduceLE, reduceEq, Int.reduceLT, Int.reduceBEq, Int.reduceBNe]) ?_; simp only [txP, intP, AW, reduceAdd, reduceCtorEq, reduceEqDiff, ↓reduceIte, reduceLT, reduceLeDiff, reduceSub, reducePow, reduceMul, reduceToNat, reduceLE, reduceEq, Int.reduceLT, Int.reduceBEq, Int.reduceBNe]
        simp only [b5, b6, AW, reduceAdd, reduceCtorEq, reduceEqDiff, ↓reduceIte, reduceLT, reduceLeDiff, reduceSub, reducePow, reduceMul, reduceToNat, reduceLE, reduceEq, Int.reduceLT, Int.reduceBEq, Int.reduceBNe]
        refine drawnK rfl ?_
        (try simp only [add1N (show j ≤ 1000000 by omega), AW, reduceAdd, reduceCtorEq, reduceEqDiff, ↓reduceIte, reduceLT, reduceLeDiff, reduceSub, reducePow, reduceMul, reduceToNat, reduceLE, reduceEq, Int.reduceLT, Int.reduceBEq, Int.reduceBNe])
        refine ⟨j + 1, ⟨hltj, fun i hi hij => ?_⟩, ?_, meas_lt hltj⟩
        · by_cases e : i = j
          · subst e; unfold cellK; rw [ect, m4]; rfl
          · exact ij i hi (by omega)
        · simp only [LW, Nat.reduceMod, Nat.reduceDiv, ec, eh, intP, boolP, vr0_succ, AW, reduceAdd, reduceCtorEq, reduceEqDiff, ↓reduceIte, reduceLT, reduceLeDiff, reduceSub, reducePow, reduceMul, reduceToNat, reduceLE, reduceEq, Int.reduceLT, Int.reduceBEq, Int.reduceBNe]
    · have ect : cellT false row[j] = [48] := by unfold cellT; rw [hx]; rfl
      have gc := number_g [48] (by decide)
      have m4 : numV [48] = some 0 := by decide +kernel
      rw [m4] at gc
      rw [hx] at eh
      have hd2 : cellD false row[j] = 0 := by unfold cellD numD; rw [ect, m4]; rfl
      rw [hd2] at ec
      simp only [b7, b8, Nat.mul_one, b48, AW, reduceAdd, reduceCtorEq, reduceEqDiff, ↓reduceIte, reduceLT, reduceLeDiff, reduceSub, reducePow, reduceMul, reduceToNat, reduceLE, reduceEq, Int.reduceLT, Int.reduceBEq, Int.reduceBNe]
      refine ops_call (GoodE.some.1 gc) (by simp only [txP, intP, AW, reduceAdd, reduceCtorEq, reduceEqDiff, ↓reduceIte, reduceLT, reduceLeDiff, reduceSub, reducePow, reduceMul, reduceToNat, reduceLE, reduceEq, Int.reduceLT, Int.reduceBEq, Int.reduceBNe]) ?_; simp only [txP, intP, AW, reduceAdd, reduceCtorEq, reduceEqDiff, ↓reduceIte, reduceLT, reduceLeDiff, reduceSub, reducePow, reduceMul, reduceToNat, reduceLE, reduceEq, Int.reduceLT, Int.reduceBEq, Int.reduceBNe]
      simp only [b5, b6, AW, reduceAdd, reduceCtorEq, reduceEqDiff, ↓reduceIte, reduceLT, reduceLeDiff, reduceSub, reducePow, reduceMul, reduceToNat, reduceLE, reduceEq, Int.reduceLT, Int.reduceBEq, Int.reduceBNe]
      refine drawnK rfl ?_
      (try simp only [add1N (show j ≤ 1000000 by omega), AW, reduceAdd, reduceCtorEq, reduceEqDiff, ↓reduceIte, reduceLT, reduceLeDiff, reduceSub, reducePow, reduceMul, reduceToNat, reduceLE, reduceEq, Int.reduceLT, Int.reduceBEq, Int.reduceBNe])
      refine ⟨j + 1, ⟨hltj, fun i hi hij => ?_⟩, ?_, meas_lt hltj⟩
      · by_cases e : i = j
        · subst e; unfold cellK; rw [ect, m4]; rfl
        · exact ij i hi (by omega)
      · simp only [LW, Nat.reduceMod, Nat.reduceDiv, ec, eh, intP, boolP, vr0_succ, AW, reduceAdd, reduceCtorEq, reduceEqDiff, ↓reduceIte, reduceLT, reduceLeDiff, reduceSub, reducePow, reduceMul, reduceToNat, reduceLE, reduceEq, Int.reduceLT, Int.reduceBEq, Int.reduceBNe]
  · simp only [AW, reduceAdd, reduceCtorEq, reduceEqDiff, ↓reduceIte, reduceLT, reduceLeDiff, reduceSub, reducePow, reduceMul, reduceToNat, reduceLE, reduceEq, Int.reduceLT, Int.reduceBEq, Int.reduceBNe]
    have gw := words_g l[l.length - 1] tNoise (by omega)
    unfold wordsO at gw
    cases k8 : wordOk l[l.length - 1] tNoise
    · rw [k8] at gw
      have no : readO l = none := none_of (by simp only [readOk, e9, hb, if_true, if_false, Bool.false_eq_true, k8, Bool.and_false, Bool.false_and])
      refine ops_callE (gw) (by simp only [txP, btNoise, AW, reduceAdd, reduceCtorEq, reduceEqDiff, ↓reduceIte, reduceLT, reduceLeDiff, reduceSub, reducePow, reduceMul, reduceToNat, reduceLE, reduceEq, Int.reduceLT, Int.reduceBEq, Int.reduceBNe]) (fun _ => ⟨by first | exact True.intro | (unfold dieOk; rfl), fun τ => ?_⟩) (fun _ h => by cases h); simp only [txP, btNoise, AW, reduceAdd, reduceCtorEq, reduceEqDiff, ↓reduceIte, reduceLT, reduceLeDiff, reduceSub, reducePow, reduceMul, reduceToNat, reduceLE, reduceEq, Int.reduceLT, Int.reduceBEq, Int.reduceBNe]
      exact no
    rw [k8, if_pos rfl] at gw
    refine ops_call (GoodE.some.1 gw) (by simp only [txP, btNoise, AW, reduceAdd, reduceCtorEq, reduceEqDiff, ↓reduceIte, reduceLT, reduceLeDiff, reduceSub, reducePow, reduceMul, reduceToNat, reduceLE, reduceEq, Int.reduceLT, Int.reduceBEq, Int.reduceBNe]) ?_; simp only [txP, btNoise, AW, reduceAdd, reduceCtorEq, reduceEqDiff, ↓reduceIte, reduceLT, reduceLeDiff, reduceSub, reducePow, reduceMul, reduceToNat, reduceLE, reduceEq, Int.reduceLT, Int.reduceBEq, Int.reduceBNe]
    cases k9 : numsOk (rowW l[l.length - 1])
    · rw [k9] at gn
      have no : readO l = none := none_of (by simp only [readOk, e9, k9, Bool.and_false, Bool.false_and])
      refine ops_callE (gn) (by simp only [AW, reduceAdd, reduceCtorEq, reduceEqDiff, ↓reduceIte, reduceLT, reduceLeDiff, reduceSub, reducePow, reduceMul, reduceToNat, reduceLE, reduceEq, Int.reduceLT, Int.reduceBEq, Int.reduceBNe]) (fun _ => ⟨by first | exact True.intro | (unfold dieOk; rfl), fun τ => ?_⟩) (fun _ h => by cases h); simp only [AW, reduceAdd, reduceCtorEq, reduceEqDiff, ↓reduceIte, reduceLT, reduceLeDiff, reduceSub, reducePow, reduceMul, reduceToNat, reduceLE, reduceEq, Int.reduceLT, Int.reduceBEq, Int.reduceBNe]
      exact no
    rw [k9, if_pos rfl] at gn
    refine ops_call (GoodE.some.1 gn) (by simp only [intsP, AW, reduceAdd, reduceCtorEq, reduceEqDiff, ↓reduceIte, reduceLT, reduceLeDiff, reduceSub, reducePow, reduceMul, reduceToNat, reduceLE, reduceEq, Int.reduceLT, Int.reduceBEq, Int.reduceBNe]) ?_; simp only [intsP, AW, reduceAdd, reduceCtorEq, reduceEqDiff, ↓reduceIte, reduceLT, reduceLeDiff, reduceSub, reducePow, reduceMul, reduceToNat, reduceLE, reduceEq, Int.reduceLT, Int.reduceBEq, Int.reduceBNe]
    simp only [w9, v1, v2, ea, emid, List.length_map, true_or, or_true, AW, reduceAdd, reduceCtorEq, reduceEqDiff, ↓reduceIte, reduceLT, reduceLeDiff, reduceSub, reducePow, reduceMul, reduceToNat, reduceLE, reduceEq, Int.reduceLT, Int.reduceBEq, Int.reduceBNe]
    clear gn gw
    refine run_loop (ι := Nat) (fun k => ⟨[(2, .ptr 0 0), (4, .ptr 33 0), (6, .sc (.bool true)), (86, .sl ((midL l).map txP)), (87, .sc (.int .i64 ((midL l).length : Int))), (88, .sc (.int .i64 (k : Int)))], [(0, .var [.sc (.int .i64 0), .sc (.int .i64 0), .sc (.int .i64 0), .sc (.int .i64 0), .sc (.int .i64 0), .sc (.slice none 0 0), .sc (.slice none 0 0), .sc (.slice none 0 0), .sc (.slice none 0 0), .sc (.slice none 0 0)]), (33, .var [.sc (.int .i64 n0), .sc (.int .i64 n1), .sc (.int .i64 n2), .sc (.int .i64 n3), .sc (.int .i64 (C : Int)), .own 79 0, .own 80 0, .own 81 0, .sc (.slice none 0 0), .sl ((lastN l).map intP)]), (79, .row 3 1 0 (cP true C (midL l) k)), (80, .row 4 1 0 (hP true C (midL l) k)), (81, .row 3 1 0 (sP true C (midL l) k))], 82, 161⟩) (fun k => k ≤ (midL l).length ∧ (∀ i (hi : i < (midL l).length), i < k → rowOkB true C (midL l)[i] = true)) (fun k => (midL l).length - k) 82 (fun _ => rfl) 0 (by simp only [LW, Nat.reduceMod, Nat.reduceDiv, Int.natCast_zero, cP_zero, hP_zero, sP_zero, List.map_nil, List.length_map, Nat.zero_lt_one, AW, reduceAdd, reduceCtorEq, reduceEqDiff, ↓reduceIte, reduceLT, reduceLeDiff, reduceSub, reducePow, reduceMul, reduceToNat, reduceLE, reduceEq, Int.reduceLT, Int.reduceBEq, Int.reduceBNe]) ⟨Nat.zero_le _, nofun⟩ (fun k hk => ?_)
    obtain ⟨gk, ik⟩ := hk
    by_cases hltk : k < (midL l).length
    rotate_left
    · have dk : decide ((k : Int) < (((midL l).length : Nat) : Int)) = false := by rw [decide_eq_false_iff_not]; exact fun h => hltk (Int.ofNat_lt.1 h)
      have ek : k = (midL l).length := Nat.le_antisymm gk (Nat.le_of_not_lt hltk)
      subst ek
      have hall : readOk l = true := by
        have ha : (midL l).all (rowOkB (noiL l) (colN l)) = true := by rw [hb, hC]; exact all_yes (fun j hj => ik j hj hj)
        have hw9 : wordOk (lastW l) (if noiL l = true then tNoise else tSums) = true := by rw [hb, e9]; exact k8
        unfold readOk
        rw [decide_eq_true k1, e0, k2, k3, decide_eq_true k4, kh2, hw9, e9, k9, ha]; rfl
      have hrr : readO l = some (readR l).pv := by unfold readO; rw [if_pos hall]
      simp only [dk, List.length_map, AW, reduceAdd, reduceCtorEq, reduceEqDiff, ↓reduceIte, reduceLT, reduceLeDiff, reduceSub, reducePow, reduceMul, reduceToNat, reduceLE, reduceEq, Int.reduceLT, Int.reduceBEq, Int.reduceBNe]
      refine ⟨_, hrr, ?_⟩
      rw [rr, hb, hC]
      unfold cP hP sP
      rw [List.take_length]
      simp only [RelS.pv, if_true, hidsA, sumsA, List.map_nil]
    have dk : decide ((k : Int) < (((midL l).length : Nat) : Int)) = true := by rw [decide_eq_true_eq]; exact Int.ofNat_lt.2 hltk
    have norow : rowOkB true C (midL l)[k] = false → readO l = none := fun h => none_of (by
      have ha : (midL l).all (rowOkB (noiL l) (colN l)) = false := by rw [hb, hC]; exact all_no hltk h
      simp only [readOk, ha, Bool.and_false])
    have hsk := hm9 _ (List.getElem_mem hltk)
    have gw := words_g (midL l)[k] tRow (by omega)
    unfold wordsO at gw
    have gwl := rowW_len (midL l)[k]
    have gwm : ∀ x ∈ rowW (midL l)[k], x.length ≤ 10000 := fun x hx => by have := rowW_mem hx; omega
    have hm1000 : (midL l).length ≤ 1000 := by omega
    have hmx2 : (midL l).length ≤ maxLen := by unfold maxLen; omega
    simp only [dk, map_getD hltk, hltk, txP, List.length_map, AW, reduceAdd, reduceCtorEq, reduceEqDiff, ↓reduceIte, reduceLT, reduceLeDiff, reduceSub, reducePow, reduceMul, reduceToNat, reduceLE, reduceEq, Int.reduceLT, Int.reduceBEq, Int.reduceBNe]
    cases m1 : wordOk (midL l)[k] tRow
    · rw [m1] at gw
      have no := norow (by unfold rowOkB; rw [m1]; rfl)
      refine ops_callE (gw) (by simp only [txP, btRow, AW, reduceAdd, reduceCtorEq, reduceEqDiff, ↓reduceIte, reduceLT, reduceLeDiff, reduceSub, reducePow, reduceMul, reduceToNat, reduceLE, reduceEq, Int.reduceLT, Int.reduceBEq, Int.reduceBNe]) (fun _ => ⟨by first | exact True.intro | (unfold dieOk; rfl), fun τ => ?_⟩) (fun _ h => by cases h); simp only [txP, btRow, AW, reduceAdd, reduceCtorEq, reduceEqDiff, ↓reduceIte, reduceLT, reduceLeDiff, reduceSub, reducePow, reduceMul, reduceToNat, reduceLE, reduceEq, Int.reduceLT, Int.reduceBEq, Int.reduceBNe]
      exact no
    rw [m1, if_pos rfl] at gw
    refine ops_call (GoodE.some.1 gw) (by simp only [txP, btRow, AW, reduceAdd, reduceCtorEq, reduceEqDiff, ↓reduceIte, reduceLT, reduceLeDiff, reduceSub, reducePow, reduceMul, reduceToNat, reduceLE, reduceEq, Int.reduceLT, Int.reduceBEq, Int.reduceBNe]) ?_; simp only [txP, btRow, AW, reduceAdd, reduceCtorEq, reduceEqDiff, ↓reduceIte, reduceLT, reduceLeDiff, reduceSub, reducePow, reduceMul, reduceToNat, reduceLE, reduceEq, Int.reduceLT, Int.reduceBEq, Int.reduceBNe]
    clear gw
    by_cases m2 : (rowW (midL l)[k]).length = C
    rotate_left
    · have no := norow (by unfold rowOkB; rw [if_pos rfl, decide_eq_false m2, Bool.and_false, Bool.false_and])
      have d : (((rowW (midL l)[k]).length : Int) == (C : Int)) = false := by rw [beq_eq_false_iff_ne]; omega
      simp only [List.length_map, d, AW, reduceAdd, reduceCtorEq, reduceEqDiff, ↓reduceIte, reduceLT, reduceLeDiff, reduceSub, reducePow, reduceMul, reduceToNat, reduceLE, reduceEq, Int.reduceLT, Int.reduceBEq, Int.reduceBNe]
      refine ops_callE (must_no) (by simp only [AW, reduceAdd, reduceCtorEq, reduceEqDiff, ↓reduceIte, reduceLT, reduceLeDiff, reduceSub, reducePow, reduceMul, reduceToNat, reduceLE, reduceEq, Int.reduceLT, Int.reduceBEq, Int.reduceBNe]) (fun _ => ⟨by first | exact True.intro | (unfold dieOk; rfl), fun τ => ?_⟩) (fun _ h => by cases h); simp only [AW, reduceAdd, reduceCtorEq, reduceEqDiff, ↓reduceIte, reduceLT, reduceLeDiff, reduceSub, reducePow, reduceMul, reduceToNat, reduceLE, reduceEq, Int.reduceLT, Int.reduceBEq, Int.reduceBNe]
      exact no
    have d2 : (((rowW (midL l)[k]).length : Int) == (C : Int)) = true := by rw [beq_iff_eq]; omega
    have etk : (rowW (midL l)[k]).map txP = ((rowW (midL l)[k]).take C).map txP := by rw [List.take_of_length_le (Nat.le_of_eq m2)]
    obtain ⟨row, hrow⟩ : ∃ r, r = (rowW (midL l)[k]).take C := ⟨_, rfl⟩
    have hrl2 : row.length = C := by rw [hrow, List.length_take]; omega
    have hrm : ∀ x ∈ row, x.length ≤ 10000 := fun x hx => gwm x (List.mem_of_mem_take (by rw [← hrow]; exact hx))
    have hrs : (rowW (midL l)[k]).take C = row := hrow.symm
    have dC : ((C : Int) == (C : Int)) = true := by simp
    have etk2 : (rowW (midL l)[k]).map txP = row.map txP := by rw [hrow, List.take_of_length_le (Nat.le_of_eq m2)]
    simp only [etk2, List.length_map, hrl2, dC, d2, AW, reduceAdd, reduceCtorEq, reduceEqDiff, ↓reduceIte, reduceLT, reduceLeDiff, reduceSub, reducePow, reduceMul, reduceToNat, reduceLE, reduceEq, Int.reduceLT, Int.reduceBEq, Int.reduceBNe]
    refine ops_call (must_yes) (by simp only [AW, reduceAdd, reduceCtorEq, reduceEqDiff, ↓reduceIte, reduceLT, reduceLeDiff, reduceSub, reducePow, reduceMul, reduceToNat, reduceLE, reduceEq, Int.reduceLT, Int.reduceBEq, Int.reduceBNe]) ?_; simp only [AW, reduceAdd, reduceCtorEq, reduceEqDiff, ↓reduceIte, reduceLT, reduceLeDiff, reduceSub, reducePow, reduceMul, reduceToNat, reduceLE, reduceEq, Int.reduceLT, Int.reduceBEq, Int.reduceBNe]
    simp only [List.length_map, hrl2, AW, reduceAdd, reduceCtorEq, reduceEqDiff, ↓reduceIte, reduceLT, reduceLeDiff, reduceSub, reducePow, reduceMul, reduceToNat, reduceLE, reduceEq, Int.reduceLT, Int.reduceBEq, Int.reduceBNe]
    refine run_loop (ι := Nat) (fun j => ⟨[(2, .ptr 0 0), (4, .ptr 33 0), (6, .sc (.bool true)), (86, .sl ((midL l).map txP)), (87, .sc (.int .i64 ((midL l).length : Int))), (88, .sc (.int .i64 (k : Int))), (128, .sl (row.map txP)), (129, .sc (.int .i64 (C : Int))), (130, .sc (.int .i64 (j : Int)))], [(0, .var [.sc (.int .i64 0), .sc (.int .i64 0), .sc (.int .i64 0), .sc (.int .i64 0), .sc (.int .i64 0), .sc (.slice none 0 0), .sc (.slice none 0 0), .sc (.slice none 0 0), .sc (.slice none 0 0), .sc (.slice none 0 0)]), (33, .var [.sc (.int .i64 n0), .sc (.int .i64 n1), .sc (.int .i64 n2), .sc (.int .i64 n3), .sc (.int .i64 (C : Int)), .own 79 0, .own 80 0, .own 81 0, .sc (.slice none 0 0), .sl ((lastN l).map intP)]), (79, .row 3 1 0 (cJ true C (midL l) k row j)), (80, .row 4 1 0 (hJ true C (midL l) k row j)), (81, .row 3 1 0 (sP true C (midL l) k))], 101, 161⟩) (fun j => j ≤ C ∧ (∀ i (hi : i < row.length), i < j → cellK true row[i] = true)) (fun j => C - j) 101 (fun _ => rfl) 0 (by simp only [LW, Nat.reduceMod, Nat.reduceDiv, Int.natCast_zero, cJ_zero, hJ_zero, List.length_map, AW, reduceAdd, reduceCtorEq, reduceEqDiff, ↓reduceIte, reduceLT, reduceLeDiff, reduceSub, reducePow, reduceMul, reduceToNat, reduceLE, reduceEq, Int.reduceLT, Int.reduceBEq, Int.reduceBNe]) ⟨Nat.zero_le _, nofun⟩ (fun j hj => ?_)
    obtain ⟨gj, ij⟩ := hj
    by_cases hltj : j < C
    rotate_left
    · have dj : decide ((j : Int) < ((C : Nat) : Int)) = false := by rw [decide_eq_false_iff_not]; exact fun h => hltj (Int.ofNat_lt.1 h)
      have ej : j = C := Nat.le_antisymm gj (Nat.le_of_not_lt hltj)
      rw [ej]
      have hok : rowOkB true C (midL l)[k] = true := by
        unfold rowOkB
        rw [m1, if_pos rfl, decide_eq_true m2, hrs, all_yes (p := cellK true) (fun i hi => ij i hi (by omega))]; rfl
      have ec := cJ_end (b := true) hltk (by rw [hrs]; exact hrl2)
      have eh := hJ_end (b := true) hltk (by rw [hrs]; exact hrl2)
      rw [hrs] at ec eh
      rw [ec, eh]
      have dC2 : decide ((C : Int) < (C : Int)) = false := by rw [decide_eq_false_iff_not]; omega
      simp only [dC2, AW, reduceAdd, reduceCtorEq, reduceEqDiff, ↓reduceIte, reduceLT, reduceLeDiff, reduceSub, reducePow, reduceMul, reduceToNat, reduceLE, reduceEq, Int.reduceLT, Int.reduceBEq, Int.reduceBNe]
      (try simp only [wrap_succ hltk hmx2, AW, reduceAdd, reduceCtorEq, reduceEqDiff, ↓reduceIte, reduceLT, reduceLeDiff, reduceSub, reducePow, reduceMul, reduceToNat, reduceLE, reduceEq, Int.reduceLT, Int.reduceBEq, Int.reduceBNe])
      refine ⟨k + 1, ⟨hltk, fun i hi hik => ?_⟩, ?_, meas_lt hltk⟩
      · by_cases e : i = k
        · subst e; exact hok
        · exact ik i hi (by omega)
      · simp only [LW, Nat.reduceMod, Nat.reduceDiv, sP_true, AW, reduceAdd, reduceCtorEq, reduceEqDiff, ↓reduceIte, reduceLT, reduceLeDiff, reduceSub, reducePow, reduceMul, reduceToNat, reduceLE, reduceEq, Int.reduceLT, Int.reduceBEq, Int.reduceBNe]
    have dj : decide ((j : Int) < ((C : Nat) : Int)) = true := by rw [decide_eq_true_eq]; exact Int.ofNat_lt.2 hltj
    have hjr : j < row.length := by omega
    have hsj := hrm _ (List.getElem_mem hjr)
    have nocell : cellK true row[j] = false → readO l = none := fun h => norow (by
      unfold rowOkB
      rw [hrs, all_no hjr h, Bool.and_false])
    have ec := cJ_succ (b := true) (C := C) (rs := midL l) (k := k) hjr
    have ⟨b5, b6⟩ := room10 (m := 8) (cJ_len (b := true) (C := C) (rs := midL l) (k := k) (j := j) (row := row) hm1000 c8 (by omega)) (by decide) (by decide)
    have gc := number_g row[j] (by omega)
    have ect : cellT true row[j] = row[j] := rfl
    simp only [dj, map_getD hjr, hjr, txP, AW, reduceAdd, reduceCtorEq, reduceEqDiff, ↓reduceIte, reduceLT, reduceLeDiff, reduceSub, reducePow, reduceMul, reduceToNat, reduceLE, reduceEq, Int.reduceLT, Int.reduceBEq, Int.reduceBNe]
    cases m4 : numV row[j] with
    | none =>
      rw [m4] at gc
      have no := nocell (by unfold cellK; rw [ect, m4]; rfl)
      refine ops_callE (gc) (by simp only [txP, AW, reduceAdd, reduceCtorEq, reduceEqDiff, ↓reduceIte, reduceLT, reduceLeDiff, reduceSub, reducePow, reduceMul, reduceToNat, reduceLE, reduceEq, Int.reduceLT, Int.reduceBEq, Int.reduceBNe]) (fun _ => ⟨by first | exact True.intro | (unfold dieOk; rfl), fun τ => ?_⟩) (fun _ h => by cases h); simp only [txP, AW, reduceAdd, reduceCtorEq, reduceEqDiff, ↓reduceIte, reduceLT, reduceLeDiff, reduceSub, reducePow, reduceMul, reduceToNat, reduceLE, reduceEq, Int.reduceLT, Int.reduceBEq, Int.reduceBNe]
      exact no
    | some v2 =>
      rw [m4] at gc
      have hd2 : cellD true row[j] = v2 := by unfold cellD numD; rw [ect, m4]; rfl
      rw [hd2] at ec
      refine ops_call (GoodE.some.1 gc) (by simp only [txP, intP, AW, reduceAdd, reduceCtorEq, reduceEqDiff, ↓reduceIte, reduceLT, reduceLeDiff, reduceSub, reducePow, reduceMul, reduceToNat, reduceLE, reduceEq, Int.reduceLT, Int.reduceBEq, Int.reduceBNe]) ?_; simp only [txP, intP, AW, reduceAdd, reduceCtorEq, reduceEqDiff, ↓reduceIte, reduceLT, reduceLeDiff, reduceSub, reducePow, reduceMul, reduceToNat, reduceLE, reduceEq, Int.reduceLT, Int.reduceBEq, Int.reduceBNe]
      simp only [b5, b6, AW, reduceAdd, reduceCtorEq, reduceEqDiff, ↓reduceIte, reduceLT, reduceLeDiff, reduceSub, reducePow, reduceMul, reduceToNat, reduceLE, reduceEq, Int.reduceLT, Int.reduceBEq, Int.reduceBNe]
      refine drawnK rfl ?_
      (try simp only [add1N (show j ≤ 1000000 by omega), AW, reduceAdd, reduceCtorEq, reduceEqDiff, ↓reduceIte, reduceLT, reduceLeDiff, reduceSub, reducePow, reduceMul, reduceToNat, reduceLE, reduceEq, Int.reduceLT, Int.reduceBEq, Int.reduceBNe])
      refine ⟨j + 1, ⟨hltj, fun i hi hij => ?_⟩, ?_, meas_lt hltj⟩
      · by_cases e : i = j
        · subst e; unfold cellK; rw [ect, m4]; rfl
        · exact ij i hi (by omega)
      · simp only [LW, Nat.reduceMod, Nat.reduceDiv, ec, intP, hJ_true, AW, reduceAdd, reduceCtorEq, reduceEqDiff, ↓reduceIte, reduceLT, reduceLeDiff, reduceSub, reducePow, reduceMul, reduceToNat, reduceLE, reduceEq, Int.reduceLT, Int.reduceBEq, Int.reduceBNe]


end Go.Proofs.YtjnfldkcbcfboaaGreatDoor
