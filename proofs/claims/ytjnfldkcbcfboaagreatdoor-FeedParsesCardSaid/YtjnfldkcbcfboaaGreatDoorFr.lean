/-
  The reference's guess, walked.
-/
import Derived.Test.YtjnfldkcbcfboaaGreatDoorFq
namespace Go.Proofs.YtjnfldkcbcfboaaGreatDoor
open Go.RowKit
open Nat (reduceAdd reduceEqDiff reduceLT reduceLeDiff reduceSub reducePow reduceMul)
open Int (reduceToNat reduceLE reduceEq)
set_option linter.unusedVariables false
set_option linter.unusedSimpArgs false
set_option linter.unnecessarySimpa false

def gN (b : Bool) (s : List UInt8) : List Int := if b = true then numsL (splitW s) else (numsL (splitW s)).dropLast
def gS (b : Bool) (s : List UInt8) : List Int := if b = true then [] else (numsL (splitW s)).getLast?.toList
def gH (b : Bool) (s : List UInt8) : List Bool := if b = true then [] else ((splitW s).tail.dropLast).map fun w => decide (w = tX)
def gB (l : List (List UInt8)) : Bool := decide ((splitW (lastW l)).headD [] = tNoise)
def gHd (l : List (List UInt8)) : List Int := numsL (splitW (l.getD 0 []))
def gLs (l : List (List UInt8)) : List Int := numsL (splitW (lastW l))
def guessR (l : List (List UInt8)) : RelS := if (gHd l).length = 5 then ⟨⟨(gHd l).getD 0 0, (gHd l).getD 1 0⟩, (gHd l).getD 2 0, ⟨(gHd l).getD 3 0, (gHd l).getD 4 0, (midL l).flatMap (gN (gB l))⟩, (midL l).flatMap (gH (gB l)), (midL l).flatMap (gS (gB l)), if gB l = true then [] else gLs l, ⟨if gB l = true then gLs l else []⟩⟩ else relZ
def cQ (b : Bool) (rs : List (List UInt8)) (k : Nat) : List PV := ((rs.take k).flatMap (gN b)).map intP
def hQ (b : Bool) (rs : List (List UInt8)) (k : Nat) : List PV := ((rs.take k).flatMap (gH b)).map boolP
def sQ (b : Bool) (rs : List (List UInt8)) (k : Nat) : List PV := ((rs.take k).flatMap (gS b)).map intP
theorem cQ_zero (b : Bool) (rs : List (List UInt8)) : cQ b rs 0 = [] := rfl
theorem hQ_zero (b : Bool) (rs : List (List UInt8)) : hQ b rs 0 = [] := rfl
theorem sQ_zero (b : Bool) (rs : List (List UInt8)) : sQ b rs 0 = [] := rfl
theorem cQ_succ {b : Bool} {rs : List (List UInt8)} {k : Nat} (h : k < rs.length) : cQ b rs (k + 1) = cQ b rs k ++ (gN b rs[k]).map intP := by
  unfold cQ; rw [flatMap_snoc _ h, List.map_append]
theorem hQ_succ {b : Bool} {rs : List (List UInt8)} {k : Nat} (h : k < rs.length) : hQ b rs (k + 1) = hQ b rs k ++ (gH b rs[k]).map boolP := by
  unfold hQ; rw [flatMap_snoc _ h, List.map_append]
theorem sQ_succ {b : Bool} {rs : List (List UInt8)} {k : Nat} (h : k < rs.length) : sQ b rs (k + 1) = sQ b rs k ++ (gS b rs[k]).map intP := by
  unfold sQ; rw [flatMap_snoc _ h, List.map_append]
theorem numsL_len (ws : List (List UInt8)) : (numsL ws).length = ws.length - 1 := by unfold numsL; rw [List.length_map, List.length_tail]
theorem gN_len (b : Bool) (s : List UInt8) : (gN b s).length ≤ s.length := by
  have := splitW_len s
  unfold gN; split
  · rw [numsL_len]; omega
  · rw [List.length_dropLast, numsL_len]; omega
theorem gH_len (b : Bool) (s : List UInt8) : (gH b s).length ≤ s.length := by
  have := splitW_len s
  unfold gH; split
  · simp
  · rw [List.length_map, List.length_dropLast, List.length_tail]; omega
theorem gS_len (b : Bool) (s : List UInt8) : (gS b s).length ≤ 1 := by
  unfold gS; split
  · simp
  · cases (numsL (splitW s)).getLast? <;> simp
section
variable {b : Bool} {rs : List (List UInt8)} {k : Nat} (hr : rs.length ≤ 1000) (hs : ∀ s ∈ rs, s.length ≤ 10000)
include hr hs
theorem cQ_len : (cQ b rs k).length ≤ 10000000 := by
  unfold cQ; rw [List.length_map]
  have h1 := flat_len (f := gN b) (C := 10000) (rs.take k) (fun s h => Nat.le_trans (gN_len b s) (hs s (List.mem_of_mem_take h)))
  have h2 : (rs.take k).length * 10000 ≤ 1000 * 10000 := Nat.mul_le_mul (by rw [List.length_take]; omega) (Nat.le_refl _)
  omega
theorem hQ_len : (hQ b rs k).length ≤ 10000000 := by
  unfold hQ; rw [List.length_map]
  have h1 := flat_len (f := gH b) (C := 10000) (rs.take k) (fun s h => Nat.le_trans (gH_len b s) (hs s (List.mem_of_mem_take h)))
  have h2 : (rs.take k).length * 10000 ≤ 1000 * 10000 := Nat.mul_le_mul (by rw [List.length_take]; omega) (Nat.le_refl _)
  omega
omit hs
theorem sQ_len : (sQ b rs k).length ≤ 1000 := by
  unfold sQ; rw [List.length_map]
  have h1 := flat_len (f := gS b) (C := 1) (rs.take k) (fun s _ => gS_len b s)
  rw [List.length_take] at h1; omega
end
theorem mid_len (l : List (List UInt8)) : (midL l).length = l.length - 2 := by unfold midL; rw [List.length_drop, List.length_take]; omega
theorem mid_get {l : List (List UInt8)} {k : Nat} (h : k < (midL l).length) : (midL l)[k] = l[k + 1]'(by rw [mid_len] at h; omega) := by
  simp [midL, Nat.add_comm]
theorem head0 {ws : List (List UInt8)} (h : 0 < ws.length) : ws.headD [] = ws[0] := by
  cases ws with
  | nil => cases h
  | cons x r => rfl
theorem ints_ok (l : List Int) : ((l.map intP).all fun p => p.flat.length == 1 && p.flat.all PV.cellOk) = true := by
  rw [List.all_eq_true]; intro x hx; obtain ⟨y, _, rfl⟩ := List.mem_map.1 hx; rfl
theorem ints_flat (l : List Int) : ((l.map intP).all fun p => p.flat.length == 1) = true := by
  rw [List.all_eq_true]; intro x hx; obtain ⟨y, _, rfl⟩ := List.mem_map.1 hx; rfl
theorem guess_pv {l : List (List UInt8)} {b : Bool} (h5 : (gHd l).length = 5) (hb : gB l = b) : (guessR l).pv = .agg [.sc (.int .i64 ((gHd l).getD 0 0)), .sc (.int .i64 ((gHd l).getD 1 0)), .sc (.int .i64 ((gHd l).getD 2 0)), .sc (.int .i64 ((gHd l).getD 3 0)), .sc (.int .i64 ((gHd l).getD 4 0)), .sl (cQ b (midL l) (midL l).length), .sl (hQ b (midL l) (midL l).length), .sl (sQ b (midL l) (midL l).length), .sl ((if b = true then [] else gLs l).map intP), .sl ((if b = true then gLs l else []).map intP)] := by
  unfold guessR cQ hQ sQ
  rw [if_pos h5, hb, List.take_length]; rfl
set_option maxHeartbeats 16000000 in
theorem guess_g (l : List (List UInt8)) (h2 : 2 ≤ l.length) (hl : l.length ≤ 1000) (hs : ∀ s ∈ l, s.length ≤ 10000) : Good Tryz.prog 16 [.sl (l.map txP)] (guessR l).pv := by
  have l0 : 0 < l.length := by omega
  have l9 : l.length - 1 < l.length := by omega
  have e0 : l.getD 0 [] = l[0] := getD_get l0
  have e9 : lastW l = l[l.length - 1] := getD_get l9
  have w9 : IntKind.i64.wrap ((l.length : Int) - 1) = ((l.length - 1 : Nat) : Int) := wrap_prd l0 (Nat.lt_succ_self _) (by unfold maxLen; omega)
  have hs0 := hs _ (List.getElem_mem l0)
  have hs9 : (lastW l).length ≤ 10000 := by rw [e9]; exact hs _ (List.getElem_mem l9)
  have hml := mid_len l
  have hm1 : (midL l).length ≤ 1000 := by omega
  have hm2 : ∀ s ∈ midL l, s.length ≤ 10000 := fun s hm => hs s (List.mem_of_mem_take (List.mem_of_mem_drop hm))
  have gw0 := rwords_g l[0] (by omega)
  have gn0 := rnums_g (splitW l[0]) (by have := splitW_len l[0]; omega) (fun w hw => by have := splitW_mem _ _ hw; omega)
  have eh : numsL (splitW l[0]) = gHd l := by unfold gHd; rw [e0]
  rw [eh] at gn0
  have gw9 := rwords_g (lastW l) (by omega)
  have m9 : (l.map txP).getD (l.length - 1) .dead = txP (lastW l) := by rw [map_getD l9, e9]
  refine good16 (by simp) ?_
  simp only [ac16, List.length_map, map_getD l0, l0, txP, AW, reduceAdd, reduceCtorEq, reduceEqDiff, ↓reduceIte, reduceLT, reduceLeDiff, reduceSub, reducePow, reduceMul, reduceToNat, reduceLE, reduceEq, Int.reduceLT, Int.reduceBEq, Int.reduceBNe]
  refine ops_call (gw0) (by simp only [txP, AW, reduceAdd, reduceCtorEq, reduceEqDiff, ↓reduceIte, reduceLT, reduceLeDiff, reduceSub, reducePow, reduceMul, reduceToNat, reduceLE, reduceEq, Int.reduceLT, Int.reduceBEq, Int.reduceBNe]) ?_; simp only [txP, AW, reduceAdd, reduceCtorEq, reduceEqDiff, ↓reduceIte, reduceLT, reduceLeDiff, reduceSub, reducePow, reduceMul, reduceToNat, reduceLE, reduceEq, Int.reduceLT, Int.reduceBEq, Int.reduceBNe]
  refine ops_call (gn0) (by simp only [AW, reduceAdd, reduceCtorEq, reduceEqDiff, ↓reduceIte, reduceLT, reduceLeDiff, reduceSub, reducePow, reduceMul, reduceToNat, reduceLE, reduceEq, Int.reduceLT, Int.reduceBEq, Int.reduceBNe]) ?_; simp only [AW, reduceAdd, reduceCtorEq, reduceEqDiff, ↓reduceIte, reduceLT, reduceLeDiff, reduceSub, reducePow, reduceMul, reduceToNat, reduceLE, reduceEq, Int.reduceLT, Int.reduceBEq, Int.reduceBNe]
  simp only [w9, l9, m9, txP, List.length_map, AW, reduceAdd, reduceCtorEq, reduceEqDiff, ↓reduceIte, reduceLT, reduceLeDiff, reduceSub, reducePow, reduceMul, reduceToNat, reduceLE, reduceEq, Int.reduceLT, Int.reduceBEq, Int.reduceBNe]
  refine ops_call (gw9) (by simp only [txP, AW, reduceAdd, reduceCtorEq, reduceEqDiff, ↓reduceIte, reduceLT, reduceLeDiff, reduceSub, reducePow, reduceMul, reduceToNat, reduceLE, reduceEq, Int.reduceLT, Int.reduceBEq, Int.reduceBNe]) ?_; simp only [txP, AW, reduceAdd, reduceCtorEq, reduceEqDiff, ↓reduceIte, reduceLT, reduceLeDiff, reduceSub, reducePow, reduceMul, reduceToNat, reduceLE, reduceEq, Int.reduceLT, Int.reduceBEq, Int.reduceBNe]
  by_cases h5 : (gHd l).length = 5
  rotate_left
  · have d : (((gHd l).length : Int) != 5) = true := by rw [bne_iff_ne]; omega
    have er : guessR l = relZ := if_neg h5
    rw [er]
    simp only [d, List.length_map, AW, reduceAdd, reduceCtorEq, reduceEqDiff, ↓reduceIte, reduceLT, reduceLeDiff, reduceSub, reducePow, reduceMul, reduceToNat, reduceLE, reduceEq, Int.reduceLT, Int.reduceBEq, Int.reduceBNe]
    (try simp only [relZ, RelS.pv, List.map_nil, AW, reduceAdd, reduceCtorEq, reduceEqDiff, ↓reduceIte, reduceLT, reduceLeDiff, reduceSub, reducePow, reduceMul, reduceToNat, reduceLE, reduceEq, Int.reduceLT, Int.reduceBEq, Int.reduceBNe])
  have d : (((gHd l).length : Int) != 5) = false := by rw [bne_eq_false_iff_eq]; omega
  have q0 : 0 < (gHd l).length := by omega
  have q1 : 1 < (gHd l).length := by omega
  have q2 : 2 < (gHd l).length := by omega
  have q3 : 3 < (gHd l).length := by omega
  have q4 : 4 < (gHd l).length := by omega
  have g0 : (gHd l).getD 0 0 = (gHd l)[0] := getD_get q0
  have g1 : (gHd l).getD 1 0 = (gHd l)[1] := getD_get q1
  have g2 : (gHd l).getD 2 0 = (gHd l)[2] := getD_get q2
  have g3 : (gHd l).getD 3 0 = (gHd l)[3] := getD_get q3
  have g4 : (gHd l).getD 4 0 = (gHd l)[4] := getD_get q4
  have p0 : 0 < (splitW (lastW l)).length := List.length_pos_iff.2 (splitW_ne (lastW l))
  have ehd : (splitW (lastW l)).headD [] = (splitW (lastW l))[0] := head0 p0
  have hgb : gB l = decide ((splitW (lastW l))[0] = tNoise) := by unfold gB; rw [ehd]
  simp only [d, map_getD q0, map_getD q1, map_getD q2, map_getD q3, map_getD q4, q0, q1, q2, q3, q4, intP, List.length_map, AW, reduceAdd, reduceCtorEq, reduceEqDiff, ↓reduceIte, reduceLT, reduceLeDiff, reduceSub, reducePow, reduceMul, reduceToNat, reduceLE, reduceEq, Int.reduceLT, Int.reduceBEq, Int.reduceBNe]
  (first | (refine drawnK rfl ?_; (try simp only [AW, reduceAdd, reduceCtorEq, reduceEqDiff, ↓reduceIte, reduceLT, reduceLeDiff, reduceSub, reducePow, reduceMul, reduceToNat, reduceLE, reduceEq, Int.reduceLT, Int.reduceBEq, Int.reduceBNe])) | skip)
  simp only [map_getD p0, p0, txP, bA_beq, btNoise, List.length_map, ← hgb, AW, reduceAdd, reduceCtorEq, reduceEqDiff, ↓reduceIte, reduceLT, reduceLeDiff, reduceSub, reducePow, reduceMul, reduceToNat, reduceLE, reduceEq, Int.reduceLT, Int.reduceBEq, Int.reduceBNe]
  cases hb : gB l
  · rw [guess_pv (b := false) h5 hb, g0, g1, g2, g3, g4]
    generalize (gHd l)[0] = n0 at *
    generalize (gHd l)[1] = n1 at *
    generalize (gHd l)[2] = n2 at *
    generalize (gHd l)[3] = n3 at *
    generalize (gHd l)[4] = n4 at *
    refine run_loop (ι := Nat) (fun k => ⟨[(0, .sl (l.map txP)), (2, .ptr 0 0), (4, .sl ((splitW (lastW l)).map txP)), (5, .ptr 36 0), (6, .sc (.bool false)), (7, .sc (.int .i64 ((k + 1 : Nat) : Int)))], [(0, .var [.sc (.int .i64 0), .sc (.int .i64 0), .sc (.int .i64 0), .sc (.int .i64 0), .sc (.int .i64 0), .sc (.slice none 0 0), .sc (.slice none 0 0), .sc (.slice none 0 0), .sc (.slice none 0 0), .sc (.slice none 0 0)]), (36, .var [.sc (.int .i64 n0), .sc (.int .i64 n1), .sc (.int .i64 n2), .sc (.int .i64 n3), .sc (.int .i64 n4), .own 44 0, .own 45 0, .own 46 0, .sc (.slice none 0 0), .sc (.slice none 0 0)]), (44, .row 3 1 0 (cQ false (midL l) k)), (45, .row 4 1 0 (hQ false (midL l) k)), (46, .row 3 1 0 (sQ false (midL l) k))], 47, 123⟩) (fun k => k ≤ (midL l).length) (fun k => (midL l).length - k) 47 (fun _ => rfl) 0 (by simp only [LW, Nat.reduceMod, Nat.reduceDiv, Nat.zero_add, Int.natCast_one, cQ_zero, hQ_zero, sQ_zero, Nat.zero_lt_one, AW, reduceAdd, reduceCtorEq, reduceEqDiff, ↓reduceIte, reduceLT, reduceLeDiff, reduceSub, reducePow, reduceMul, reduceToNat, reduceLE, reduceEq, Int.reduceLT, Int.reduceBEq, Int.reduceBNe]) (Nat.zero_le _) (fun k hk => ?_)
    by_cases hltk : k < (midL l).length
    rotate_left
    · have ek : k = (midL l).length := by omega
      have dk : decide (((k + 1 : Nat) : Int) < ((l.length - 1 : Nat) : Int)) = false := by rw [decide_eq_false_iff_not]; omega
      have gn := rnums_g (splitW (lastW l)) (by have := splitW_len (lastW l); omega) (fun w hw => by have := splitW_mem _ _ hw; omega)
      rw [show numsL (splitW (lastW l)) = gLs l from rfl] at gn
      simp only [w9, dk, List.length_map, AW, reduceAdd, reduceCtorEq, reduceEqDiff, ↓reduceIte, reduceLT, reduceLeDiff, reduceSub, reducePow, reduceMul, reduceToNat, reduceLE, reduceEq, Int.reduceLT, Int.reduceBEq, Int.reduceBNe]
      refine ops_call (gn) (by simp only [AW, reduceAdd, reduceCtorEq, reduceEqDiff, ↓reduceIte, reduceLT, reduceLeDiff, reduceSub, reducePow, reduceMul, reduceToNat, reduceLE, reduceEq, Int.reduceLT, Int.reduceBEq, Int.reduceBNe]) ?_; simp only [AW, reduceAdd, reduceCtorEq, reduceEqDiff, ↓reduceIte, reduceLT, reduceLeDiff, reduceSub, reducePow, reduceMul, reduceToNat, reduceLE, reduceEq, Int.reduceLT, Int.reduceBEq, Int.reduceBNe]
      (first | (refine drawnK rfl ?_; (try simp only [AW, reduceAdd, reduceCtorEq, reduceEqDiff, ↓reduceIte, reduceLT, reduceLeDiff, reduceSub, reducePow, reduceMul, reduceToNat, reduceLE, reduceEq, Int.reduceLT, Int.reduceBEq, Int.reduceBNe])) | skip)
      rw [← ek]
      (try simp only [if_false, Bool.false_eq_true, List.map_nil, AW, reduceAdd, reduceCtorEq, reduceEqDiff, ↓reduceIte, reduceLT, reduceLeDiff, reduceSub, reducePow, reduceMul, reduceToNat, reduceLE, reduceEq, Int.reduceLT, Int.reduceBEq, Int.reduceBNe])
    have hk1 : k + 1 < l.length := by omega
    have dk : decide (((k + 1 : Nat) : Int) < ((l.length - 1 : Nat) : Int)) = true := by rw [decide_eq_true_eq]; omega
    have wk : IntKind.i64.wrap (((k + 1 : Nat) : Int) + 1) = ((k + 1 + 1 : Nat) : Int) := add1N (by omega)
    have hsk := mid_get hltk
    have hsl := hs _ (List.getElem_mem hk1)
    have lc := cQ_len (b := false) (k := k) hm1 hm2
    have lh := hQ_len (b := false) (k := k) hm1 hm2
    have ls := sQ_len (b := false) (k := k) hm1
    have gw := rwords_g l[k + 1] (by omega)
    have gn := rnums_g (splitW l[k + 1]) (by have := splitW_len l[k + 1]; omega) (fun w hw => by have := splitW_mem _ _ hw; omega)
    have hnl0 : (numsL (splitW l[k + 1])).length ≤ 10000 := by rw [numsL_len]; have := splitW_len l[k + 1]; omega
    have lc2 := cQ_succ (b := false) hltk
    have mk_ : (l.map txP).getD (k + 1) .dead = txP l[k + 1] := map_getD hk1
    generalize hsv : l[k + 1] = s at *
    clear lc2
    simp only [w9, dk, mk_, hk1, txP, List.length_map, AW, reduceAdd, reduceCtorEq, reduceEqDiff, ↓reduceIte, reduceLT, reduceLeDiff, reduceSub, reducePow, reduceMul, reduceToNat, reduceLE, reduceEq, Int.reduceLT, Int.reduceBEq, Int.reduceBNe]
    refine ops_call (gw) (by simp only [txP, AW, reduceAdd, reduceCtorEq, reduceEqDiff, ↓reduceIte, reduceLT, reduceLeDiff, reduceSub, reducePow, reduceMul, reduceToNat, reduceLE, reduceEq, Int.reduceLT, Int.reduceBEq, Int.reduceBNe]) ?_; simp only [txP, AW, reduceAdd, reduceCtorEq, reduceEqDiff, ↓reduceIte, reduceLT, reduceLeDiff, reduceSub, reducePow, reduceMul, reduceToNat, reduceLE, reduceEq, Int.reduceLT, Int.reduceBEq, Int.reduceBNe]
    refine ops_call (gn) (by simp only [AW, reduceAdd, reduceCtorEq, reduceEqDiff, ↓reduceIte, reduceLT, reduceLeDiff, reduceSub, reducePow, reduceMul, reduceToNat, reduceLE, reduceEq, Int.reduceLT, Int.reduceBEq, Int.reduceBNe]) ?_; simp only [AW, reduceAdd, reduceCtorEq, reduceEqDiff, ↓reduceIte, reduceLT, reduceLeDiff, reduceSub, reducePow, reduceMul, reduceToNat, reduceLE, reduceEq, Int.reduceLT, Int.reduceBEq, Int.reduceBNe]
    have esc := cQ_succ (b := false) hltk
    have esh := hQ_succ (b := false) hltk
    have ess := sQ_succ (b := false) hltk
    rw [hsk, show gN false s = (numsL (splitW s)).dropLast from rfl] at esc
    rw [hsk, show gH false s = ((splitW s).tail.dropLast).map (fun w => decide (w = tX)) from rfl] at esh
    rw [hsk, show gS false s = (numsL (splitW s)).getLast?.toList from rfl] at ess
    have hnl := numsL_len (splitW s)
    have htl : (splitW s).tail.dropLast.length = (numsL (splitW s)).length - 1 := by rw [List.length_dropLast, List.length_tail, hnl]
    have hxw : ∀ j (hj : j < (splitW s).tail.dropLast.length) (h2 : j + 1 < (splitW s).length), (splitW s).tail.dropLast[j] = (splitW s)[j + 1] := fun j hj h2 => by
      rw [List.getElem_dropLast, List.getElem_tail]
    generalize cQ false (midL l) k = cr at *
    generalize hQ false (midL l) k = hr at *
    generalize sQ false (midL l) k = sr at *
    obtain ⟨sr2, hsr2⟩ : ∃ r, sQ false (midL l) (k + 1) = r := ⟨_, rfl⟩
    rw [hsr2] at ess
    generalize hws : splitW s = ws at *
    generalize hns : numsL ws = ns at *
    generalize ws.tail.dropLast = xs at *
    by_cases h0 : ns.length = 0
    · have hn0 : ns = [] := List.eq_nil_of_length_eq_zero h0
      subst hn0
      have hx0 : xs = [] := List.eq_nil_of_length_eq_zero (by rw [htl]; rfl)
      subst hx0
      rw [List.dropLast_nil, List.map_nil, List.append_nil] at esc
      rw [List.map_nil, List.map_nil, List.append_nil] at esh
      rw [List.getLast?_nil, Option.toList_none, List.map_nil, List.append_nil] at ess
      have q1 : cr.length ≤ maxLen := by unfold maxLen; omega
      have q2 : cr.length * 8 ≤ 140737488355328 := by omega
      have d0 : decide ((0 : Int) < ((0 : Nat) : Int)) = false := by decide
      have d00 : decide (((0 : Nat) : Int) < ((0 : Nat) : Int)) = false := by decide
      have y0 : ((List.nil : List PV).all fun p => p.flat.length == 1 && p.flat.all PV.cellOk) = true := rfl
      simp only [d0, y0, q1, q2, List.map_nil, List.length_nil, Nat.add_zero, List.append_nil, AW, reduceAdd, reduceCtorEq, reduceEqDiff, ↓reduceIte, reduceLT, reduceLeDiff, reduceSub, reducePow, reduceMul, reduceToNat, reduceLE, reduceEq, Int.reduceLT, Int.reduceBEq, Int.reduceBNe]
      refine run_loop (ι := Nat) (fun j => ⟨[(0, .sl (l.map txP)), (2, .ptr 0 0), (4, .sl ((splitW (lastW l)).map txP)), (5, .ptr 36 0), (6, .sc (.bool false)), (7, .sc (.int .i64 ((k + 1 : Nat) : Int))), (8, .sl (ws.map txP)), (9, .sl (([] : List PV))), (10, .sc (.int .i64 (j : Int)))], [(0, .var [.sc (.int .i64 0), .sc (.int .i64 0), .sc (.int .i64 0), .sc (.int .i64 0), .sc (.int .i64 0), .sc (.slice none 0 0), .sc (.slice none 0 0), .sc (.slice none 0 0), .sc (.slice none 0 0), .sc (.slice none 0 0)]), (36, .var [.sc (.int .i64 n0), .sc (.int .i64 n1), .sc (.int .i64 n2), .sc (.int .i64 n3), .sc (.int .i64 n4), .own 44 1, .own 45 0, .own 46 0, .sc (.slice none 0 0), .sc (.slice none 0 0)]), (44, .row 3 1 1 (cr)), (45, .row 4 1 0 (hr)), (46, .row 3 1 0 (sr))], 77, 123⟩) (fun j => j = 0) (fun j => j) 77 (fun _ => rfl) 0 (by simp only [LW, Nat.reduceMod, Nat.reduceDiv, Int.natCast_zero, List.append_nil, List.map_nil, AW, reduceAdd, reduceCtorEq, reduceEqDiff, ↓reduceIte, reduceLT, reduceLeDiff, reduceSub, reducePow, reduceMul, reduceToNat, reduceLE, reduceEq, Int.reduceLT, Int.reduceBEq, Int.reduceBNe]) rfl (fun j hj => ?_)
      subst hj
      simp only [d00, d0, wk, List.length_nil, AW, reduceAdd, reduceCtorEq, reduceEqDiff, ↓reduceIte, reduceLT, reduceLeDiff, reduceSub, reducePow, reduceMul, reduceToNat, reduceLE, reduceEq, Int.reduceLT, Int.reduceBEq, Int.reduceBNe]
      (try simp only [wk, AW, reduceAdd, reduceCtorEq, reduceEqDiff, ↓reduceIte, reduceLT, reduceLeDiff, reduceSub, reducePow, reduceMul, reduceToNat, reduceLE, reduceEq, Int.reduceLT, Int.reduceBEq, Int.reduceBNe])
      refine ⟨k + 1, hltk, ?_, meas_lt hltk⟩
      simp only [LW, Nat.reduceMod, Nat.reduceDiv, esc, esh, ess, hsr2, AW, reduceAdd, reduceCtorEq, reduceEqDiff, ↓reduceIte, reduceLT, reduceLeDiff, reduceSub, reducePow, reduceMul, reduceToNat, reduceLE, reduceEq, Int.reduceLT, Int.reduceBEq, Int.reduceBNe]

    have hp : ns.length - 1 < ns.length := by omega
    have wn : IntKind.i64.wrap ((ns.length : Int) - 1) = ((ns.length - 1 : Nat) : Int) := wrap_prd (by omega) (Nat.lt_succ_self _) (by unfold maxLen; omega)
    have d0 : decide ((0 : Int) < (ns.length : Int)) = true := by rw [decide_eq_true_eq]; omega
    have hgl : ns.getLast?.toList = [ns[ns.length - 1]] := by rw [List.getLast?_eq_getElem?, List.getElem?_eq_getElem hp]; rfl
    rw [hgl, List.map_cons, List.map_nil] at ess
    have edl : (ns.map intP).take (ns.length - 1) = ns.dropLast.map intP := by rw [← List.map_take, List.dropLast_eq_take]
    have hdl : ns.dropLast.length = ns.length - 1 := List.length_dropLast
    have u1 : sr.length + 1 ≤ maxLen := by unfold maxLen; omega
    have u2 : (sr.length + 1) * 8 ≤ 140737488355328 := by omega
    have hp2 : ns.length - 1 ≤ ns.length := by omega
    have hwl : ws.length = ns.length + 1 := by omega
    generalize hns2 : ns.dropLast = ns2 at *
    have q1 : cr.length + ns2.length ≤ maxLen := by unfold maxLen; omega
    have q2 : (cr.length + ns2.length) * 8 ≤ 140737488355328 := by omega
    generalize hlv : ns[ns.length - 1] = lv at *
    have gl : (ns.map intP).getD (ns.length - 1) .dead = intP lv := by rw [map_getD hp, hlv]
    simp only [d0, wn, gl, hp, intP, u1, u2, List.length_map, AW, reduceAdd, reduceCtorEq, reduceEqDiff, ↓reduceIte, reduceLT, reduceLeDiff, reduceSub, reducePow, reduceMul, reduceToNat, reduceLE, reduceEq, Int.reduceLT, Int.reduceBEq, Int.reduceBNe]
    (first | (refine drawnK rfl ?_; (try simp only [AW, reduceAdd, reduceCtorEq, reduceEqDiff, ↓reduceIte, reduceLT, reduceLeDiff, reduceSub, reducePow, reduceMul, reduceToNat, reduceLE, reduceEq, Int.reduceLT, Int.reduceBEq, Int.reduceBNe])) | skip)
    simp only [wn, hp2, ints_flat, edl, List.length_map, AW, reduceAdd, reduceCtorEq, reduceEqDiff, ↓reduceIte, reduceLT, reduceLeDiff, reduceSub, reducePow, reduceMul, reduceToNat, reduceLE, reduceEq, Int.reduceLT, Int.reduceBEq, Int.reduceBNe]
    (try simp only [ints_ok, q1, q2, List.length_map, AW, reduceAdd, reduceCtorEq, reduceEqDiff, ↓reduceIte, reduceLT, reduceLeDiff, reduceSub, reducePow, reduceMul, reduceToNat, reduceLE, reduceEq, Int.reduceLT, Int.reduceBEq, Int.reduceBNe])
    (first | (refine drawnK rfl ?_; (try simp only [AW, reduceAdd, reduceCtorEq, reduceEqDiff, ↓reduceIte, reduceLT, reduceLeDiff, reduceSub, reducePow, reduceMul, reduceToNat, reduceLE, reduceEq, Int.reduceLT, Int.reduceBEq, Int.reduceBNe])) | skip)
    refine run_loop (ι := Nat) (fun j => ⟨[(0, .sl (l.map txP)), (2, .ptr 0 0), (4, .sl ((splitW (lastW l)).map txP)), (5, .ptr 36 0), (6, .sc (.bool false)), (7, .sc (.int .i64 ((k + 1 : Nat) : Int))), (8, .sl (ws.map txP)), (9, .sl ((ns2).map intP)), (10, .sc (.int .i64 (j : Int)))], [(0, .var [.sc (.int .i64 0), .sc (.int .i64 0), .sc (.int .i64 0), .sc (.int .i64 0), .sc (.int .i64 0), .sc (.slice none 0 0), .sc (.slice none 0 0), .sc (.slice none 0 0), .sc (.slice none 0 0), .sc (.slice none 0 0)]), (36, .var [.sc (.int .i64 n0), .sc (.int .i64 n1), .sc (.int .i64 n2), .sc (.int .i64 n3), .sc (.int .i64 n4), .own 44 (vr0 j), .own 45 0, .own 46 (vr0 j), .sc (.slice none 0 0), .sc (.slice none 0 0)]), (44, .row 3 1 (vr0 j) (cr ++ ns2.map intP)), (45, .row 4 1 0 (hr ++ ((xs.take j).map fun w => decide (w = tX)).map boolP)), (46, .row 3 1 (vr0 j) (sr2)), (76, .row 3 1 0 [.sc (.int .i64 lv)])], 95, 123⟩) (fun j => j ≤ ns2.length) (fun j => ns2.length - j) 95 (fun _ => rfl) 0 (by simp only [LW, Nat.reduceMod, Nat.reduceDiv, Int.natCast_zero, vr0_zero, List.take_zero, List.map_nil, List.append_nil, ess, intP, List.length_map, AW, reduceAdd, reduceCtorEq, reduceEqDiff, ↓reduceIte, reduceLT, reduceLeDiff, reduceSub, reducePow, reduceMul, reduceToNat, reduceLE, reduceEq, Int.reduceLT, Int.reduceBEq, Int.reduceBNe]) (Nat.zero_le _) (fun j hj => ?_)
    by_cases hlj : j < ns2.length
    rotate_left
    · have ej : j = ns2.length := by omega
      have dj : decide ((j : Int) < (ns2.length : Int)) = false := by rw [decide_eq_false_iff_not]; omega
      have ex : xs.take j = xs := List.take_of_length_le (by omega)
      rw [ex, ← esh]
      simp only [dj, wk, List.length_map, AW, reduceAdd, reduceCtorEq, reduceEqDiff, ↓reduceIte, reduceLT, reduceLeDiff, reduceSub, reducePow, reduceMul, reduceToNat, reduceLE, reduceEq, Int.reduceLT, Int.reduceBEq, Int.reduceBNe]
      (try simp only [wk, AW, reduceAdd, reduceCtorEq, reduceEqDiff, ↓reduceIte, reduceLT, reduceLeDiff, reduceSub, reducePow, reduceMul, reduceToNat, reduceLE, reduceEq, Int.reduceLT, Int.reduceBEq, Int.reduceBNe])
      refine ⟨k + 1, hltk, ?_, meas_lt hltk⟩
      simp only [LW, Nat.reduceMod, Nat.reduceDiv, esc, hsr2, AW, reduceAdd, reduceCtorEq, reduceEqDiff, ↓reduceIte, reduceLT, reduceLeDiff, reduceSub, reducePow, reduceMul, reduceToNat, reduceLE, reduceEq, Int.reduceLT, Int.reduceBEq, Int.reduceBNe]
    have dj : decide ((j : Int) < (ns2.length : Int)) = true := by rw [decide_eq_true_eq]; omega
    have hjx : j < xs.length := by omega
    have hjw : j + 1 < ws.length := by omega
    have ej := hxw j hjx hjw
    have wj : IntKind.i64.wrap ((j : Int) + 1) = ((j + 1 : Nat) : Int) := add1N (by omega)
    have es : ((xs.take (j + 1)).map fun w => decide (w = tX)).map boolP = ((xs.take j).map fun w => decide (w = tX)).map boolP ++ [boolP (decide (ws[j + 1] = tX))] := by
      rw [List.take_succ_eq_append_getElem hjx, ej, List.map_append, List.map_append]; rfl
    have hjl : (((xs.take j).map fun w => decide (w = tX)).map boolP).length ≤ 10000 := by rw [List.length_map, List.length_map, List.length_take]; omega
    generalize ((xs.take j).map fun w => decide (w = tX)).map boolP = hj_ at *
    have u3 : (hr ++ hj_).length + 1 ≤ maxLen := by rw [List.length_append]; unfold maxLen; omega
    have u4 : ((hr ++ hj_).length + 1) ≤ 140737488355328 := by rw [List.length_append]; omega
    rw [List.length_append] at u3 u4
    simp only [dj, wj, map_getD hjw, hjw, txP, bA_beq, btX, u3, u4, Nat.mul_one, List.length_map, List.length_append, AW, reduceAdd, reduceCtorEq, reduceEqDiff, ↓reduceIte, reduceLT, reduceLeDiff, reduceSub, reducePow, reduceMul, reduceToNat, reduceLE, reduceEq, Int.reduceLT, Int.reduceBEq, Int.reduceBNe]
    (first | (refine drawnK rfl ?_; (try simp only [AW, reduceAdd, reduceCtorEq, reduceEqDiff, ↓reduceIte, reduceLT, reduceLeDiff, reduceSub, reducePow, reduceMul, reduceToNat, reduceLE, reduceEq, Int.reduceLT, Int.reduceBEq, Int.reduceBNe])) | skip)
    (try simp only [wj, AW, reduceAdd, reduceCtorEq, reduceEqDiff, ↓reduceIte, reduceLT, reduceLeDiff, reduceSub, reducePow, reduceMul, reduceToNat, reduceLE, reduceEq, Int.reduceLT, Int.reduceBEq, Int.reduceBNe])
    refine ⟨j + 1, hlj, ?_, meas_lt hlj⟩
    simp only [LW, Nat.reduceMod, Nat.reduceDiv, es, boolP, vr0_succ, List.append_assoc, AW, reduceAdd, reduceCtorEq, reduceEqDiff, ↓reduceIte, reduceLT, reduceLeDiff, reduceSub, reducePow, reduceMul, reduceToNat, reduceLE, reduceEq, Int.reduceLT, Int.reduceBEq, Int.reduceBNe]

  · rw [guess_pv (b := true) h5 hb, g0, g1, g2, g3, g4]
    generalize (gHd l)[0] = n0 at *
    generalize (gHd l)[1] = n1 at *
    generalize (gHd l)[2] = n2 at *
    generalize (gHd l)[3] = n3 at *
    generalize (gHd l)[4] = n4 at *
    refine run_loop (ι := Nat) (fun k => ⟨[(0, .sl (l.map txP)), (2, .ptr 0 0), (4, .sl ((splitW (lastW l)).map txP)), (5, .ptr 36 0), (6, .sc (.bool true)), (7, .sc (.int .i64 ((k + 1 : Nat) : Int)))], [(0, .var [.sc (.int .i64 0), .sc (.int .i64 0), .sc (.int .i64 0), .sc (.int .i64 0), .sc (.int .i64 0), .sc (.slice none 0 0), .sc (.slice none 0 0), .sc (.slice none 0 0), .sc (.slice none 0 0), .sc (.slice none 0 0)]), (36, .var [.sc (.int .i64 n0), .sc (.int .i64 n1), .sc (.int .i64 n2), .sc (.int .i64 n3), .sc (.int .i64 n4), .own 44 0, .own 45 0, .own 46 0, .sc (.slice none 0 0), .sc (.slice none 0 0)]), (44, .row 3 1 0 (cQ true (midL l) k)), (45, .row 4 1 0 (hQ true (midL l) k)), (46, .row 3 1 0 (sQ true (midL l) k))], 47, 123⟩) (fun k => k ≤ (midL l).length) (fun k => (midL l).length - k) 47 (fun _ => rfl) 0 (by simp only [LW, Nat.reduceMod, Nat.reduceDiv, Nat.zero_add, Int.natCast_one, cQ_zero, hQ_zero, sQ_zero, Nat.zero_lt_one, AW, reduceAdd, reduceCtorEq, reduceEqDiff, ↓reduceIte, reduceLT, reduceLeDiff, reduceSub, reducePow, reduceMul, reduceToNat, reduceLE, reduceEq, Int.reduceLT, Int.reduceBEq, Int.reduceBNe]) (Nat.zero_le _) (fun k hk => ?_)
    by_cases hltk : k < (midL l).length
    rotate_left
    · have ek : k = (midL l).length := by omega
      have dk : decide (((k + 1 : Nat) : Int) < ((l.length - 1 : Nat) : Int)) = false := by rw [decide_eq_false_iff_not]; omega
      have gn := rnums_g (splitW (lastW l)) (by have := splitW_len (lastW l); omega) (fun w hw => by have := splitW_mem _ _ hw; omega)
      rw [show numsL (splitW (lastW l)) = gLs l from rfl] at gn
      simp only [w9, dk, List.length_map, AW, reduceAdd, reduceCtorEq, reduceEqDiff, ↓reduceIte, reduceLT, reduceLeDiff, reduceSub, reducePow, reduceMul, reduceToNat, reduceLE, reduceEq, Int.reduceLT, Int.reduceBEq, Int.reduceBNe]
      refine ops_call (gn) (by simp only [AW, reduceAdd, reduceCtorEq, reduceEqDiff, ↓reduceIte, reduceLT, reduceLeDiff, reduceSub, reducePow, reduceMul, reduceToNat, reduceLE, reduceEq, Int.reduceLT, Int.reduceBEq, Int.reduceBNe]) ?_; simp only [AW, reduceAdd, reduceCtorEq, reduceEqDiff, ↓reduceIte, reduceLT, reduceLeDiff, reduceSub, reducePow, reduceMul, reduceToNat, reduceLE, reduceEq, Int.reduceLT, Int.reduceBEq, Int.reduceBNe]
      (first | (refine drawnK rfl ?_; (try simp only [AW, reduceAdd, reduceCtorEq, reduceEqDiff, ↓reduceIte, reduceLT, reduceLeDiff, reduceSub, reducePow, reduceMul, reduceToNat, reduceLE, reduceEq, Int.reduceLT, Int.reduceBEq, Int.reduceBNe])) | skip)
      rw [← ek]
      (try simp only [if_true, List.map_nil, AW, reduceAdd, reduceCtorEq, reduceEqDiff, ↓reduceIte, reduceLT, reduceLeDiff, reduceSub, reducePow, reduceMul, reduceToNat, reduceLE, reduceEq, Int.reduceLT, Int.reduceBEq, Int.reduceBNe])
    have hk1 : k + 1 < l.length := by omega
    have dk : decide (((k + 1 : Nat) : Int) < ((l.length - 1 : Nat) : Int)) = true := by rw [decide_eq_true_eq]; omega
    have wk : IntKind.i64.wrap (((k + 1 : Nat) : Int) + 1) = ((k + 1 + 1 : Nat) : Int) := add1N (by omega)
    have hsk := mid_get hltk
    have hsl := hs _ (List.getElem_mem hk1)
    have lc := cQ_len (b := true) (k := k) hm1 hm2
    have lh := hQ_len (b := true) (k := k) hm1 hm2
    have ls := sQ_len (b := true) (k := k) hm1
    have gw := rwords_g l[k + 1] (by omega)
    have gn := rnums_g (splitW l[k + 1]) (by have := splitW_len l[k + 1]; omega) (fun w hw => by have := splitW_mem _ _ hw; omega)
    have hnl0 : (numsL (splitW l[k + 1])).length ≤ 10000 := by rw [numsL_len]; have := splitW_len l[k + 1]; omega
    have lc2 := cQ_succ (b := true) hltk
    have mk_ : (l.map txP).getD (k + 1) .dead = txP l[k + 1] := map_getD hk1
    generalize hsv : l[k + 1] = s at *
    clear lc2
    simp only [w9, dk, mk_, hk1, txP, List.length_map, AW, reduceAdd, reduceCtorEq, reduceEqDiff, ↓reduceIte, reduceLT, reduceLeDiff, reduceSub, reducePow, reduceMul, reduceToNat, reduceLE, reduceEq, Int.reduceLT, Int.reduceBEq, Int.reduceBNe]
    refine ops_call (gw) (by simp only [txP, AW, reduceAdd, reduceCtorEq, reduceEqDiff, ↓reduceIte, reduceLT, reduceLeDiff, reduceSub, reducePow, reduceMul, reduceToNat, reduceLE, reduceEq, Int.reduceLT, Int.reduceBEq, Int.reduceBNe]) ?_; simp only [txP, AW, reduceAdd, reduceCtorEq, reduceEqDiff, ↓reduceIte, reduceLT, reduceLeDiff, reduceSub, reducePow, reduceMul, reduceToNat, reduceLE, reduceEq, Int.reduceLT, Int.reduceBEq, Int.reduceBNe]
    refine ops_call (gn) (by simp only [AW, reduceAdd, reduceCtorEq, reduceEqDiff, ↓reduceIte, reduceLT, reduceLeDiff, reduceSub, reducePow, reduceMul, reduceToNat, reduceLE, reduceEq, Int.reduceLT, Int.reduceBEq, Int.reduceBNe]) ?_; simp only [AW, reduceAdd, reduceCtorEq, reduceEqDiff, ↓reduceIte, reduceLT, reduceLeDiff, reduceSub, reducePow, reduceMul, reduceToNat, reduceLE, reduceEq, Int.reduceLT, Int.reduceBEq, Int.reduceBNe]
    have esc := cQ_succ (b := true) hltk
    have esh := hQ_succ (b := true) hltk
    have ess := sQ_succ (b := true) hltk
    rw [hsk, show gN true s = numsL (splitW s) from rfl] at esc
    rw [hsk, show gH true s = [] from rfl, List.map_nil, List.append_nil] at esh
    rw [hsk, show gS true s = [] from rfl, List.map_nil, List.append_nil] at ess
    generalize cQ true (midL l) k = cr at *
    generalize hQ true (midL l) k = hr at *
    generalize sQ true (midL l) k = sr at *
    generalize hns : numsL (splitW s) = ns at *
    have q1 : cr.length + ns.length ≤ maxLen := by unfold maxLen; omega
    have q2 : (cr.length + ns.length) * 8 ≤ 140737488355328 := by omega
    simp only [ints_ok, q1, q2, List.length_map, AW, reduceAdd, reduceCtorEq, reduceEqDiff, ↓reduceIte, reduceLT, reduceLeDiff, reduceSub, reducePow, reduceMul, reduceToNat, reduceLE, reduceEq, Int.reduceLT, Int.reduceBEq, Int.reduceBNe]
    refine run_loop (ι := Nat) (fun j => ⟨[(0, .sl (l.map txP)), (2, .ptr 0 0), (4, .sl ((splitW (lastW l)).map txP)), (5, .ptr 36 0), (6, .sc (.bool true)), (7, .sc (.int .i64 ((k + 1 : Nat) : Int))), (8, .sl ((splitW s).map txP)), (9, .sl ((ns).map intP)), (10, .sc (.int .i64 (j : Int)))], [(0, .var [.sc (.int .i64 0), .sc (.int .i64 0), .sc (.int .i64 0), .sc (.int .i64 0), .sc (.int .i64 0), .sc (.slice none 0 0), .sc (.slice none 0 0), .sc (.slice none 0 0), .sc (.slice none 0 0), .sc (.slice none 0 0)]), (36, .var [.sc (.int .i64 n0), .sc (.int .i64 n1), .sc (.int .i64 n2), .sc (.int .i64 n3), .sc (.int .i64 n4), .own 44 1, .own 45 0, .own 46 0, .sc (.slice none 0 0), .sc (.slice none 0 0)]), (44, .row 3 1 1 (cr ++ (ns).map intP)), (45, .row 4 1 0 (hr)), (46, .row 3 1 0 (sr))], 77, 123⟩) (fun j => j = 0) (fun j => j) 77 (fun _ => rfl) 0 (by simp only [LW, Nat.reduceMod, Nat.reduceDiv, Int.natCast_zero, List.length_map, AW, reduceAdd, reduceCtorEq, reduceEqDiff, ↓reduceIte, reduceLT, reduceLeDiff, reduceSub, reducePow, reduceMul, reduceToNat, reduceLE, reduceEq, Int.reduceLT, Int.reduceBEq, Int.reduceBNe]) rfl (fun j hj => ?_)
    subst hj
    by_cases h0 : ns.length = 0
    rotate_left
    · have d0 : decide (((0 : Nat) : Int) < (ns.length : Int)) = true := by rw [decide_eq_true_eq]; omega
      simp only [d0, wk, List.length_map, AW, reduceAdd, reduceCtorEq, reduceEqDiff, ↓reduceIte, reduceLT, reduceLeDiff, reduceSub, reducePow, reduceMul, reduceToNat, reduceLE, reduceEq, Int.reduceLT, Int.reduceBEq, Int.reduceBNe]
      (try simp only [wk, AW, reduceAdd, reduceCtorEq, reduceEqDiff, ↓reduceIte, reduceLT, reduceLeDiff, reduceSub, reducePow, reduceMul, reduceToNat, reduceLE, reduceEq, Int.reduceLT, Int.reduceBEq, Int.reduceBNe])
      refine ⟨k + 1, hltk, ?_, meas_lt hltk⟩
      simp only [LW, Nat.reduceMod, Nat.reduceDiv, esc, esh, ess, AW, reduceAdd, reduceCtorEq, reduceEqDiff, ↓reduceIte, reduceLT, reduceLeDiff, reduceSub, reducePow, reduceMul, reduceToNat, reduceLE, reduceEq, Int.reduceLT, Int.reduceBEq, Int.reduceBNe]
    have d0 : decide (((0 : Nat) : Int) < (ns.length : Int)) = false := by rw [decide_eq_false_iff_not]; omega
    simp only [d0, wk, List.length_map, AW, reduceAdd, reduceCtorEq, reduceEqDiff, ↓reduceIte, reduceLT, reduceLeDiff, reduceSub, reducePow, reduceMul, reduceToNat, reduceLE, reduceEq, Int.reduceLT, Int.reduceBEq, Int.reduceBNe]
    (try simp only [wk, AW, reduceAdd, reduceCtorEq, reduceEqDiff, ↓reduceIte, reduceLT, reduceLeDiff, reduceSub, reducePow, reduceMul, reduceToNat, reduceLE, reduceEq, Int.reduceLT, Int.reduceBEq, Int.reduceBNe])
    refine ⟨k + 1, hltk, ?_, meas_lt hltk⟩
    simp only [LW, Nat.reduceMod, Nat.reduceDiv, esc, esh, ess, AW, reduceAdd, reduceCtorEq, reduceEqDiff, ↓reduceIte, reduceLT, reduceLeDiff, reduceSub, reducePow, reduceMul, reduceToNat, reduceLE, reduceEq, Int.reduceLT, Int.reduceBEq, Int.reduceBNe]



end Go.Proofs.YtjnfldkcbcfboaaGreatDoor
