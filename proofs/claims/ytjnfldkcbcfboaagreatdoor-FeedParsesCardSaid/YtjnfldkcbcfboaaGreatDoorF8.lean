/-
  What panics: must, number, numbers, words.
-/
import Derived.Test.YtjnfldkcbcfboaaGreatDoorF7
import Derived.WalkKit
namespace Go.Proofs.YtjnfldkcbcfboaaGreatDoor
open Go.RowKit
open Nat (reduceAdd reduceEqDiff reduceLT reduceLeDiff reduceSub reducePow reduceMul)
open Int (reduceToNat reduceLE reduceEq)
set_option linter.unusedVariables false
set_option linter.unusedSimpArgs false
set_option linter.unnecessarySimpa false


/-- The number of a text, as strconv.Atoi reads it. -/
def numV (s : List UInt8) : Option Int := match Lib.atoiAll s with
  | .ok v => some v
  | _ => none
def numD (s : List UInt8) : Int := (numV s).getD 0
def numsOk (l : List (List UInt8)) : Bool := l.all fun s => (numV s).isSome
def numsO (l : List (List UInt8)) : Option PV := if numsOk l = true then some (intsP (l.map numD)) else none
def rowW (s : List UInt8) : List (List UInt8) := (splitW s).tail
def wordOk (s first : List UInt8) : Bool := decide ((splitW s).headD [] = first)
def wordsO (s first : List UInt8) : Option PV := if wordOk s first = true then some (.sl ((rowW s).map txP)) else none
theorem tail_len (s : List UInt8) : (splitW s).tail.length ≤ s.length := by have := splitW_len s; rw [List.length_tail]; omega
def mal : List PanicEntry := [{ v := .iface 49 (.agg #[]), recovered := false }]
theorem must_yes : Good Tryz.prog 14 [.sc (.bool true)] (.tup []) := by
  refine good14 (by simp) ?_
  simp only [ac14, AW, reduceAdd, reduceCtorEq, reduceEqDiff, ↓reduceIte, reduceLT, reduceLeDiff, reduceSub, reducePow, reduceMul, reduceToNat, reduceLE, reduceEq, Int.reduceLT, Int.reduceBEq, Int.reduceBNe]
  rw [run_nil]; rfl
theorem must_no : GoodE Tryz.prog 14 [.sc (.bool false)] none mal := by
  intro M w vs hM hp hG
  obtain ⟨v1, vs1, rfl, h1, hp⟩ := pw_cons.1 hp
  rw [pw_nil] at hp; subst hp
  have e1 : v1 = .bool false := h1.sc_inv
  subst e1
  clear h1
  have hnot : ∀ (x : Bool) (w : World), (Op.unary .not (.bool x)).run Tryz.prog w = .ok (.bool (!x)) w := fun _ _ => rfl
  go_enter Tryz.func14, Tryz.ntmps14
  go_wp2
  exact ⟨rfl, Below.refl _ _, rfl⟩
set_option maxHeartbeats 1000000 in
theorem number_g (s : List UInt8) (hs : s.length ≤ 1000000) : GoodE Tryz.prog 29 [txP s] ((numV s).map intP) mal := by
  have ga := atoi_g s hs
  unfold atoiP at ga
  refine goodE29 (by simp) ?_
  simp only [ac29, txP, AW, reduceAdd, reduceCtorEq, reduceEqDiff, ↓reduceIte, reduceLT, reduceLeDiff, reduceSub, reducePow, reduceMul, reduceToNat, reduceLE, reduceEq, Int.reduceLT, Int.reduceBEq, Int.reduceBNe]
  unfold numV
  cases h : Lib.atoiAll s
  · rename_i v
    rw [h] at ga
    refine ops_call (ga) (by simp only [txP, intP, AW, reduceAdd, reduceCtorEq, reduceEqDiff, ↓reduceIte, reduceLT, reduceLeDiff, reduceSub, reducePow, reduceMul, reduceToNat, reduceLE, reduceEq, Int.reduceLT, Int.reduceBEq, Int.reduceBNe]) ?_; simp only [txP, intP, AW, reduceAdd, reduceCtorEq, reduceEqDiff, ↓reduceIte, reduceLT, reduceLeDiff, reduceSub, reducePow, reduceMul, reduceToNat, reduceLE, reduceEq, Int.reduceLT, Int.reduceBEq, Int.reduceBNe]
    refine ops_call (must_yes) (by simp only [AW, reduceAdd, reduceCtorEq, reduceEqDiff, ↓reduceIte, reduceLT, reduceLeDiff, reduceSub, reducePow, reduceMul, reduceToNat, reduceLE, reduceEq, Int.reduceLT, Int.reduceBEq, Int.reduceBNe]) ?_; simp only [AW, reduceAdd, reduceCtorEq, reduceEqDiff, ↓reduceIte, reduceLT, reduceLeDiff, reduceSub, reducePow, reduceMul, reduceToNat, reduceLE, reduceEq, Int.reduceLT, Int.reduceBEq, Int.reduceBNe]
    exact ⟨_, rfl⟩
  · rw [h] at ga
    refine ops_call (ga) (by simp only [txP, intP, AW, reduceAdd, reduceCtorEq, reduceEqDiff, ↓reduceIte, reduceLT, reduceLeDiff, reduceSub, reducePow, reduceMul, reduceToNat, reduceLE, reduceEq, Int.reduceLT, Int.reduceBEq, Int.reduceBNe]) ?_; simp only [txP, intP, AW, reduceAdd, reduceCtorEq, reduceEqDiff, ↓reduceIte, reduceLT, reduceLeDiff, reduceSub, reducePow, reduceMul, reduceToNat, reduceLE, reduceEq, Int.reduceLT, Int.reduceBEq, Int.reduceBNe]
    refine ops_callE (must_no) (by simp only [AW, reduceAdd, reduceCtorEq, reduceEqDiff, ↓reduceIte, reduceLT, reduceLeDiff, reduceSub, reducePow, reduceMul, reduceToNat, reduceLE, reduceEq, Int.reduceLT, Int.reduceBEq, Int.reduceBNe]) (fun _ => ⟨by first | exact True.intro | (unfold dieOk; rfl), fun τ => ?_⟩) (fun _ h => by cases h); simp only [AW, reduceAdd, reduceCtorEq, reduceEqDiff, ↓reduceIte, reduceLT, reduceLeDiff, reduceSub, reducePow, reduceMul, reduceToNat, reduceLE, reduceEq, Int.reduceLT, Int.reduceBEq, Int.reduceBNe]
    rfl
  · rw [h] at ga
    refine ops_call (ga) (by simp only [txP, intP, AW, reduceAdd, reduceCtorEq, reduceEqDiff, ↓reduceIte, reduceLT, reduceLeDiff, reduceSub, reducePow, reduceMul, reduceToNat, reduceLE, reduceEq, Int.reduceLT, Int.reduceBEq, Int.reduceBNe]) ?_; simp only [txP, intP, AW, reduceAdd, reduceCtorEq, reduceEqDiff, ↓reduceIte, reduceLT, reduceLeDiff, reduceSub, reducePow, reduceMul, reduceToNat, reduceLE, reduceEq, Int.reduceLT, Int.reduceBEq, Int.reduceBNe]
    refine ops_callE (must_no) (by simp only [AW, reduceAdd, reduceCtorEq, reduceEqDiff, ↓reduceIte, reduceLT, reduceLeDiff, reduceSub, reducePow, reduceMul, reduceToNat, reduceLE, reduceEq, Int.reduceLT, Int.reduceBEq, Int.reduceBNe]) (fun _ => ⟨by first | exact True.intro | (unfold dieOk; rfl), fun τ => ?_⟩) (fun _ h => by cases h); simp only [AW, reduceAdd, reduceCtorEq, reduceEqDiff, ↓reduceIte, reduceLT, reduceLeDiff, reduceSub, reducePow, reduceMul, reduceToNat, reduceLE, reduceEq, Int.reduceLT, Int.reduceBEq, Int.reduceBNe]
    rfl
set_option maxHeartbeats 1000000 in
theorem numbers_g (l : List (List UInt8)) (hl : l.length ≤ 1000000) (hs : ∀ s ∈ l, s.length ≤ 1000000) : GoodE Tryz.prog 25 [.sl (l.map txP)] (numsO l) mal := by
  have hmx : l.length ≤ maxLen := by unfold maxLen; omega
  refine goodE25 (by simp) ?_
  simp only [ac25, List.length_map, AW, reduceAdd, reduceCtorEq, reduceEqDiff, ↓reduceIte, reduceLT, reduceLeDiff, reduceSub, reducePow, reduceMul, reduceToNat, reduceLE, reduceEq, Int.reduceLT, Int.reduceBEq, Int.reduceBNe]
  refine run_loop (ι := Nat) (fun k => ⟨[(3, .own 5 0), (6, .sl (l.map txP)), (7, .sc (.int .i64 (l.length : Int))), (8, .sc (.int .i64 (k : Int)))], [(5, .row 3 1 0 (((l.take k).map numD).map intP))], 6, 19⟩) (fun k => k ≤ l.length ∧ (∀ j (hj : j < l.length), j < k → (numV l[j]).isSome = true)) (fun k => l.length - k) 6 (fun _ => rfl) 0 (by simp only [LW, Nat.reduceMod, Nat.reduceDiv, Int.natCast_zero, List.take_zero, List.map_nil, List.length_map, Nat.zero_lt_one, AW, reduceAdd, reduceCtorEq, reduceEqDiff, ↓reduceIte, reduceLT, reduceLeDiff, reduceSub, reducePow, reduceMul, reduceToNat, reduceLE, reduceEq, Int.reduceLT, Int.reduceBEq, Int.reduceBNe]) ⟨Nat.zero_le _, nofun⟩ (fun k hk => ?_)
  obtain ⟨gk, ik⟩ := hk
  by_cases hltk : k < l.length
  rotate_left
  · have dk : decide ((k : Int) < ((l.length : Nat) : Int)) = false := by rw [decide_eq_false_iff_not]; exact fun h => hltk (Int.ofNat_lt.1 h)
    have ek : k = l.length := Nat.le_antisymm gk (Nat.le_of_not_lt hltk)
    subst ek
    have hok : numsOk l = true := List.all_eq_true.2 (fun x hx => by obtain ⟨j, hj, rfl⟩ := List.getElem_of_mem hx; exact ik j hj hj)
    simp only [dk, List.length_map, List.take_length, AW, reduceAdd, reduceCtorEq, reduceEqDiff, ↓reduceIte, reduceLT, reduceLeDiff, reduceSub, reducePow, reduceMul, reduceToNat, reduceLE, reduceEq, Int.reduceLT, Int.reduceBEq, Int.reduceBNe]
    unfold numsO; rw [if_pos hok]; exact ⟨_, rfl, rfl⟩
  have dk : decide ((k : Int) < ((l.length : Nat) : Int)) = true := by rw [decide_eq_true_eq]; exact Int.ofNat_lt.2 hltk
  have gn := number_g l[k] (hs _ (List.getElem_mem hltk))
  have es : (l.take (k + 1)).map numD = (l.take k).map numD ++ [numD l[k]] := take_snoc_map numD hltk
  have b1 : (((l.take k).map numD).map intP).length ≤ 1000000 := by rw [List.length_map, List.length_map, List.length_take]; omega
  have b2 : (((l.take k).map numD).map intP).length + 1 ≤ maxLen := by unfold maxLen; omega
  have b3 : ((((l.take k).map numD).map intP).length + 1) * 8 ≤ 140737488355328 := by omega
  have es2 : ((l.take (k + 1)).map numD).map intP = ((l.take k).map numD).map intP ++ [intP (numD l[k])] := by rw [es, List.map_append]; rfl
  generalize ((l.take k).map numD).map intP = row at *
  simp only [dk, map_getD hltk, hltk, txP, List.length_map, AW, reduceAdd, reduceCtorEq, reduceEqDiff, ↓reduceIte, reduceLT, reduceLeDiff, reduceSub, reducePow, reduceMul, reduceToNat, reduceLE, reduceEq, Int.reduceLT, Int.reduceBEq, Int.reduceBNe]
  cases hv : numV l[k] with
  | none =>
    rw [hv] at gn
    have hno : numsO l = none := by
      unfold numsO numsOk; rw [if_neg]
      rw [all_no (p := fun s => (numV s).isSome) hltk (by rw [hv]; rfl)]; decide
    refine ops_callE (gn) (by simp only [txP, AW, reduceAdd, reduceCtorEq, reduceEqDiff, ↓reduceIte, reduceLT, reduceLeDiff, reduceSub, reducePow, reduceMul, reduceToNat, reduceLE, reduceEq, Int.reduceLT, Int.reduceBEq, Int.reduceBNe]) (fun _ => ⟨by first | exact True.intro | (unfold dieOk; rfl), fun τ => ?_⟩) (fun _ h => by cases h); simp only [txP, AW, reduceAdd, reduceCtorEq, reduceEqDiff, ↓reduceIte, reduceLT, reduceLeDiff, reduceSub, reducePow, reduceMul, reduceToNat, reduceLE, reduceEq, Int.reduceLT, Int.reduceBEq, Int.reduceBNe]
    exact hno
  | some v =>
    rw [hv] at gn
    have hd : numD l[k] = v := by unfold numD; rw [hv]; rfl
    refine ops_call (GoodE.some.1 gn) (by simp only [txP, intP, AW, reduceAdd, reduceCtorEq, reduceEqDiff, ↓reduceIte, reduceLT, reduceLeDiff, reduceSub, reducePow, reduceMul, reduceToNat, reduceLE, reduceEq, Int.reduceLT, Int.reduceBEq, Int.reduceBNe]) ?_; simp only [txP, intP, AW, reduceAdd, reduceCtorEq, reduceEqDiff, ↓reduceIte, reduceLT, reduceLeDiff, reduceSub, reducePow, reduceMul, reduceToNat, reduceLE, reduceEq, Int.reduceLT, Int.reduceBEq, Int.reduceBNe]
    simp only [b2, b3, wrap_succ hltk hmx, List.length_map, AW, reduceAdd, reduceCtorEq, reduceEqDiff, ↓reduceIte, reduceLT, reduceLeDiff, reduceSub, reducePow, reduceMul, reduceToNat, reduceLE, reduceEq, Int.reduceLT, Int.reduceBEq, Int.reduceBNe]
    refine ⟨k + 1, ⟨hltk, fun j hj hjk => ?_⟩, ?_, meas_lt hltk⟩
    · by_cases e : j = k
      · subst e; rw [hv]; rfl
      · exact ik j hj (by omega)
    · simp only [LW, Nat.reduceMod, Nat.reduceDiv, es2, hd, intP, List.length_map, AW, reduceAdd, reduceCtorEq, reduceEqDiff, ↓reduceIte, reduceLT, reduceLeDiff, reduceSub, reducePow, reduceMul, reduceToNat, reduceLE, reduceEq, Int.reduceLT, Int.reduceBEq, Int.reduceBNe]
set_option maxHeartbeats 1000000 in
theorem words_g (s first : List UInt8) (hs : s.length ≤ 1000000) : GoodE Tryz.prog 26 [txP s, txP first] (wordsO s first) mal := by
  have gs := split_g s hs
  have hsl := splitW_len s
  have hne := splitW_cons s
  obtain ⟨w0, h0⟩ : ∃ w, w = (splitW s).headD [] := ⟨_, rfl⟩
  obtain ⟨ws, h1⟩ : ∃ w, w = (splitW s).tail := ⟨_, rfl⟩
  have hwo : wordsO s first = if decide (w0 = first) = true then some (.sl (ws.map txP)) else none := by unfold wordsO wordOk rowW; rw [h0, h1]
  rw [hwo]
  rw [← h0, ← h1] at hne
  rw [hne] at gs hsl
  clear hwo h0 h1 hne
  rw [List.length_cons] at hsl
  refine goodE26 (by simp) ?_
  simp only [ac26, txP, AW, reduceAdd, reduceCtorEq, reduceEqDiff, ↓reduceIte, reduceLT, reduceLeDiff, reduceSub, reducePow, reduceMul, reduceToNat, reduceLE, reduceEq, Int.reduceLT, Int.reduceBEq, Int.reduceBNe]
  refine ops_call (gs) (by simp only [txP, b32, List.map_cons, AW, reduceAdd, reduceCtorEq, reduceEqDiff, ↓reduceIte, reduceLT, reduceLeDiff, reduceSub, reducePow, reduceMul, reduceToNat, reduceLE, reduceEq, Int.reduceLT, Int.reduceBEq, Int.reduceBNe]) ?_; simp only [txP, b32, List.map_cons, AW, reduceAdd, reduceCtorEq, reduceEqDiff, ↓reduceIte, reduceLT, reduceLeDiff, reduceSub, reducePow, reduceMul, reduceToNat, reduceLE, reduceEq, Int.reduceLT, Int.reduceBEq, Int.reduceBNe]
  have z0 : 0 < ws.length + 1 := Nat.succ_pos _
  have z1 : 1 ≤ ws.length + 1 := Nat.succ_pos _
  have za : ((ws.map txP).all fun p => p.flat.length == 1) = true := by rw [List.all_eq_true]; intro x hx; obtain ⟨y, _, rfl⟩ := List.mem_map.1 hx; rfl
  have e1 : ws.length + 1 ≤ maxLen := by unfold maxLen; omega
  by_cases h : w0 = first
  · have d : decide (w0 = first) = true := decide_eq_true h
    simp only [z0, bA_beq, d, AW, reduceAdd, reduceCtorEq, reduceEqDiff, ↓reduceIte, reduceLT, reduceLeDiff, reduceSub, reducePow, reduceMul, reduceToNat, reduceLE, reduceEq, Int.reduceLT, Int.reduceBEq, Int.reduceBNe]
    refine ops_call (must_yes) (by simp only [AW, reduceAdd, reduceCtorEq, reduceEqDiff, ↓reduceIte, reduceLT, reduceLeDiff, reduceSub, reducePow, reduceMul, reduceToNat, reduceLE, reduceEq, Int.reduceLT, Int.reduceBEq, Int.reduceBNe]) ?_; simp only [AW, reduceAdd, reduceCtorEq, reduceEqDiff, ↓reduceIte, reduceLT, reduceLeDiff, reduceSub, reducePow, reduceMul, reduceToNat, reduceLE, reduceEq, Int.reduceLT, Int.reduceBEq, Int.reduceBNe]
    have tk : (ws.map txP).take ws.length = ws.map txP := List.take_of_length_le (by rw [List.length_map]; omega)
    simp only [List.length_map, z1, za, tk, or_true, AW, reduceAdd, reduceCtorEq, reduceEqDiff, ↓reduceIte, reduceLT, reduceLeDiff, reduceSub, reducePow, reduceMul, reduceToNat, reduceLE, reduceEq, Int.reduceLT, Int.reduceBEq, Int.reduceBNe]
    exact ⟨_, rfl⟩
  · have d : decide (w0 = first) = false := decide_eq_false h
    simp only [z0, bA_beq, d, AW, reduceAdd, reduceCtorEq, reduceEqDiff, ↓reduceIte, reduceLT, reduceLeDiff, reduceSub, reducePow, reduceMul, reduceToNat, reduceLE, reduceEq, Int.reduceLT, Int.reduceBEq, Int.reduceBNe]
    refine ops_callE (must_no) (by simp only [AW, reduceAdd, reduceCtorEq, reduceEqDiff, ↓reduceIte, reduceLT, reduceLeDiff, reduceSub, reducePow, reduceMul, reduceToNat, reduceLE, reduceEq, Int.reduceLT, Int.reduceBEq, Int.reduceBNe]) (fun _ => ⟨by first | exact True.intro | (unfold dieOk; rfl), fun τ => ?_⟩) (fun _ h => by cases h); simp only [AW, reduceAdd, reduceCtorEq, reduceEqDiff, ↓reduceIte, reduceLT, reduceLeDiff, reduceSub, reducePow, reduceMul, reduceToNat, reduceLE, reduceEq, Int.reduceLT, Int.reduceBEq, Int.reduceBNe]



end Go.Proofs.YtjnfldkcbcfboaaGreatDoor
