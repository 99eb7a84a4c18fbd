/-
  num.Share, walked.
-/
import Derived.Test.YtjlhnlfalomenaaDoorNp
import Derived.Test.YtjlhnlfalomenaaDoorBr
import Derived.Test.YtjlhnlfalomenaaDoorSv
namespace Go.Proofs.YtjlhnlfalomenaaDoor
open Go.RowKit
open Nat (reduceAdd reduceEqDiff reduceLT reduceLeDiff reduceSub reducePow reduceMul)
open Int (reduceToNat reduceLE reduceEq)
set_option linter.unusedVariables false
set_option linter.unusedSimpArgs false
set_option linter.unnecessarySimpa false

theorem inB_iff {n : Int} : inB n = true ↔ 0 ≤ n ∧ n ≤ 1125899906842624 := by simp [inB]
theorem nats_sum_le {ws : List Int} (h : ws.all inB = true) : (natsL ws).sum ≤ ws.length * 1125899906842624 := by
  induction ws with
  | nil => simp [natsL]
  | cons w ws ih =>
    simp only [List.all_cons, Bool.and_eq_true] at h
    have := ih h.2
    have := inB_iff.1 h.1
    simp only [natsL, List.map_cons, List.sum_cons, List.length_cons, Nat.succ_mul] at *
    omega
theorem natsL_len (ws : List Int) : (natsL ws).length = ws.length := by simp [natsL]
theorem natsL_get {ws : List Int} (h : ws.all inB = true) {k : Nat} (hk : k < ws.length) : ws[k] = (((natsL ws).getD k 0 : Nat) : Int) := by
  have h1 := inB_iff.1 (List.all_eq_true.1 h _ (List.getElem_mem hk))
  rw [List.getD_eq_getElem?_getD, natsL, List.getElem?_map, List.getElem?_eq_getElem hk]
  simp only [Option.map_some, Option.getD_some]
  omega
theorem all_take_succ {ws : List Int} {k : Nat} (hk : k < ws.length) : (ws.take (k + 1)).all inB = ((ws.take k).all inB && inB ws[k]) := by
  rw [List.take_succ_eq_append_getElem hk, List.all_append]; simp
theorem sum_take_succ {ws : List Int} {k : Nat} (hk : k < ws.length) : (natsL (ws.take (k + 1))).sum = (natsL (ws.take k)).sum + ws[k].toNat := by
  rw [List.take_succ_eq_append_getElem hk]; simp only [natsL, List.map_append, List.sum_append, List.map_cons, List.map_nil, List.sum_cons, List.sum_nil, Nat.add_zero]
theorem le_sum : ∀ {ws : List Nat} {k : Nat}, k < ws.length → ws.getD k 0 ≤ ws.sum
  | [], k, h => by simp at h
  | w :: ws, 0, h => by simp
  | w :: ws, k + 1, h => by
    have := le_sum (ws := ws) (k := k) (by simpa using h)
    simp only [List.getD_cons_succ, List.sum_cons]
    omega
def shareP (total : Int) (ws : List Int) : PV := .tup [intsP (shareL total ws).1, intP ((shareL total ws).2 : Int)]
theorem share_1 {total : Int} {ws : List Int} (h : (inB total && decide (1 ≤ ws.length) && decide (ws.length ≤ 512) && ws.all inB) = false) : shareL total ws = ([], 1) := by
  unfold shareL; rw [if_pos h]
theorem share_ok {total : Int} {ws : List Int} (h : (inB total && decide (1 ≤ ws.length) && decide (ws.length ≤ 512) && ws.all inB) = true) (h2 : ¬ 1125899906842624 < (natsL ws).sum) (h3 : ¬((natsL ws).sum = 0 ∧ 0 < total)) : shareL total ws = (shareN total.toNat (natsL ws), 0) := by
  unfold shareL; rw [if_neg (by rw [h]; simp), if_neg h2, if_neg h3]
theorem in_g (n lo hi : Int) : Good Tryd.prog 39 [intP n, intP lo, intP hi] (.sc (.bool (decide (lo ≤ n) && decide (n ≤ hi)))) := by
  refine good39 (by simp) ?_
  simp only [ac39, intP, AW, reduceAdd, reduceCtorEq, reduceEqDiff, ↓reduceIte, reduceLT, reduceLeDiff, reduceSub, reducePow, reduceMul, reduceToNat, reduceLE, reduceEq, Int.reduceLT, Int.reduceBEq, Int.reduceBNe]
  cases decide (lo ≤ n) <;> simp only [AW, reduceAdd, reduceCtorEq, reduceEqDiff, ↓reduceIte, reduceLT, reduceLeDiff, reduceSub, reducePow, reduceMul, reduceToNat, reduceLE, reduceEq, Int.reduceLT, Int.reduceBEq, Int.reduceBNe]
def cfR (r : Nat → Nat) (x y : Int) : Int := (r y.toNat : Int) - (r x.toNat : Int)
theorem cmp_ok (n : Nat) (r : Nat → Nat) (hr : ∀ i, i < n → r i ≤ 1125899906842624) (hn : n ≤ 1000000) : CmpOk 43 (.sl ((tabI n fun i => (r i : Int)).map intP)) (cfR r) (ltR r) (fun x => ∃ i, i < n ∧ x = (i : Int)) where
  sto := sto_ltR r
  fn := ⟨Tryd.f43, Tryd.func43, by decide, rfl⟩
  good := by
    rintro x y ⟨i, hi, rfl⟩ ⟨j, hj, rfl⟩
    refine good43 (by simp) ?_
    have t1 : (tabI n fun i => (r i : Int)).length = n := tab_len _ _
    have b1 : i < (tabI n fun i => (r i : Int)).length := by rw [t1]; exact hi
    have b2 : j < (tabI n fun i => (r i : Int)).length := by rw [t1]; exact hj
    have := hr i hi; have := hr j hj
    have w : IntKind.i64.wrap ((r j : Int) - (r i : Int)) = (r j : Int) - (r i : Int) := wrap_id (by unfold I64; omega)
    simp only [ac43, intP, List.length_map, b1, b2, map_el b1, map_el b2, tab_el (f := fun i => (r i : Int)) hi, tab_el (f := fun i => (r i : Int)) hj, AW, reduceAdd, reduceCtorEq, reduceEqDiff, ↓reduceIte, reduceLT, reduceLeDiff, reduceSub, reducePow, reduceMul, reduceToNat, reduceLE, reduceEq, Int.reduceLT, Int.reduceBEq, Int.reduceBNe]
    refine drawnK rfl ?_
    simp only [w, cfR, AW, reduceAdd, reduceCtorEq, reduceEqDiff, ↓reduceIte, reduceLT, reduceLeDiff, reduceSub, reducePow, reduceMul, reduceToNat, reduceLE, reduceEq, Int.reduceLT, Int.reduceBEq, Int.reduceBNe]
  neg := by
    rintro x y ⟨i, hi, rfl⟩ ⟨j, hj, rfl⟩ hlt
    unfold cfR ltR
    rw [Int.toNat_natCast, Int.toNat_natCast]
    omega
theorem tab_step (n k : Nat) (f : Nat → Int) : ((tabI n fun i => if i < k then f i else 0).map intP).set k (.sc (.int .i64 (f k))) = (tabI n fun i => if i < k + 1 then f i else 0).map intP := by
  show ((tabI n fun i => if i < k then f i else 0).map intP).set k (intP (f k)) = _
  rw [← List.map_set, tab_set]
  congr 1
  refine tab_congr (fun i hi => ?_)
  (try simp only)
  by_cases h : i = k
  · subst h; rw [if_pos rfl, if_pos (Nat.lt_succ_self i)]
  · rw [if_neg h]
    by_cases h2 : i < k
    · rw [if_pos h2, if_pos (by omega)]
    · rw [if_neg h2, if_neg (by omega)]
set_option maxHeartbeats 8000000 in
theorem share_main (T : Nat) (ws : List Int) (S : Nat) (hS : S = (natsL ws).sum) (hT : T ≤ 1125899906842624) (hl1 : 1 ≤ ws.length) (hl2 : ws.length ≤ 512) (hall : ws.all inB = true) (hs2 : S ≤ 1125899906842624) (hz : ¬(S = 0 ∧ 0 < T)) : Good Tryd.prog 26 [intP (T : Int), intsP ws] (.tup [intsP (shareN T (natsL ws)), intP 0]) := by
  have hlen : ws.length ≤ maxLen := by unfold maxLen; omega
  refine good26 (by simp) ?_
  have t1 : decide ((T : Int) ≤ 1125899906842624) = true := by rw [decide_eq_true_eq]; omega
  have t2 : (decide ((1 : Int) ≤ (ws.length : Int)) && decide ((ws.length : Int) ≤ 512)) = true := by simp; omega
  simp only [ac26, intsP, intP, AW, reduceAdd, reduceCtorEq, reduceEqDiff, ↓reduceIte, reduceLT, reduceLeDiff, reduceSub, reducePow, reduceMul, reduceToNat, reduceLE, reduceEq, Int.reduceLT, Int.reduceBEq, Int.reduceBNe]
  refine ops_call (in_g (T : Int) 0 1125899906842624) (by simp only [intP, AW, reduceAdd, reduceCtorEq, reduceEqDiff, ↓reduceIte, reduceLT, reduceLeDiff, reduceSub, reducePow, reduceMul, reduceToNat, reduceLE, reduceEq, Int.reduceLT, Int.reduceBEq, Int.reduceBNe]) ?_; simp only [intP, AW, reduceAdd, reduceCtorEq, reduceEqDiff, ↓reduceIte, reduceLT, reduceLeDiff, reduceSub, reducePow, reduceMul, reduceToNat, reduceLE, reduceEq, Int.reduceLT, Int.reduceBEq, Int.reduceBNe]
  simp only [t1, List.length_map, AW, reduceAdd, reduceCtorEq, reduceEqDiff, ↓reduceIte, reduceLT, reduceLeDiff, reduceSub, reducePow, reduceMul, reduceToNat, reduceLE, reduceEq, Int.reduceLT, Int.reduceBEq, Int.reduceBNe]
  refine ops_call (in_g (ws.length : Int) 1 512) (by simp only [intP, AW, reduceAdd, reduceCtorEq, reduceEqDiff, ↓reduceIte, reduceLT, reduceLeDiff, reduceSub, reducePow, reduceMul, reduceToNat, reduceLE, reduceEq, Int.reduceLT, Int.reduceBEq, Int.reduceBNe]) ?_; simp only [intP, AW, reduceAdd, reduceCtorEq, reduceEqDiff, ↓reduceIte, reduceLT, reduceLeDiff, reduceSub, reducePow, reduceMul, reduceToNat, reduceLE, reduceEq, Int.reduceLT, Int.reduceBEq, Int.reduceBNe]
  simp only [t2, AW, reduceAdd, reduceCtorEq, reduceEqDiff, ↓reduceIte, reduceLT, reduceLeDiff, reduceSub, reducePow, reduceMul, reduceToNat, reduceLE, reduceEq, Int.reduceLT, Int.reduceBEq, Int.reduceBNe]
  refine run_loop (ι := Nat) (fun k => ⟨[(0, .sc (.int .i64 (T : Int))), (1, .sl (ws.map intP)), (6, .sc (.int .i64 ((natsL (ws.take k)).sum : Int))), (25, .sl (ws.map intP)), (26, .sc (.int .i64 (ws.length : Int))), (27, .sc (.int .i64 (k : Int)))], [], 15, 109⟩) (fun k => k ≤ ws.length) (fun k => ws.length - k) 15 (fun _ => rfl) 0 (by simp only [LW, Nat.reduceMod, Nat.reduceDiv, Int.natCast_zero, List.take_zero, natsL, List.map_nil, List.sum_nil, AW, reduceAdd, reduceCtorEq, reduceEqDiff, ↓reduceIte, reduceLT, reduceLeDiff, reduceSub, reducePow, reduceMul, reduceToNat, reduceLE, reduceEq, Int.reduceLT, Int.reduceBEq, Int.reduceBNe]) (Nat.zero_le _) (fun k hk => ?_)
  have gk := hk
  by_cases hltk : k < ws.length
  rotate_left
  · have dk : decide ((k : Int) < ((ws.length : Nat) : Int)) = false := by rw [decide_eq_false_iff_not]; exact fun h => hltk (Int.ofNat_lt.1 h)
    have ek : k = ws.length := Nat.le_antisymm gk (Nat.le_of_not_lt hltk)
    subst ek
    have d1 : decide ((1125899906842624 : Int) < (S : Int)) = false := by rw [decide_eq_false_iff_not]; omega
    rw [List.take_length, ← hS]
    have f0 : (0 : Int) ≤ (ws.length : Int) := by omega
    have f2 : ((8 : Nat) : Int) * (ws.length : Int) ≤ 281474976710656 := by omega
    have f3 : (ws.length : Int) ≤ 9223372036854775807 := by omega
    have j1 : (tabI ws.length fun i => if i < 0 then (qN T S (natsL ws) i : Int) else 0) = List.replicate ws.length 0 := by rw [← tab_zero]; exact tab_congr (fun i _ => by rw [if_neg (Nat.not_lt_zero _)])
    have j2 : (tabI ws.length fun i => if i < 0 then (rN T S (natsL ws) i : Int) else 0) = List.replicate ws.length 0 := by rw [← tab_zero]; exact tab_congr (fun i _ => by rw [if_neg (Nat.not_lt_zero _)])
    have j3 : (tabI ws.length fun i => if i < 0 then (i : Int) else 0) = List.replicate ws.length 0 := by rw [← tab_zero]; exact tab_congr (fun i _ => by rw [if_neg (Nat.not_lt_zero _)])
    have sq0 : sumQ T S (natsL ws) 0 = 0 := rfl
    have rle : ∀ i, i < ws.length → rN T S (natsL ws) i ≤ 1125899906842624 := by
      intro i hi
      unfold rN
      by_cases h : 0 < S
      · have := Nat.mod_lt (T * (natsL ws).getD i 0) h; omega
      · have h0 : S = 0 := by omega
        have hT0 : T = 0 := by
          by_cases h2 : 0 < T
          · exact absurd ⟨h0, h2⟩ hz
          · omega
        rw [hT0, Nat.zero_mul, Nat.zero_mod]; omega
    have qle : ∀ i, i < ws.length → qN T S (natsL ws) i ≤ 1125899906842624 := by
      intro i hi
      unfold qN
      by_cases h : 0 < S
      · have hw : (natsL ws).getD i 0 ≤ S := by rw [hS]; exact le_sum (by rw [natsL_len]; exact hi)
        refine Nat.le_trans (Nat.div_le_of_le_mul ?_) hT
        rw [Nat.mul_comm]; exact Nat.mul_le_mul_right _ hw
      · have h0 : S = 0 := by omega
        rw [h0, Nat.div_zero]; omega
    have hqs : sumQ T S (natsL ws) ws.length ≤ T ∧ T - sumQ T S (natsL ws) ws.length ≤ ws.length := by
      have e : sumQ T S (natsL ws) ws.length = ((natsL ws).map fun w => T * w / S).sum := by unfold sumQ; rw [← natsL_len ws, List.take_length]
      by_cases h : 0 < S
      · rw [e, hS]
        have := left_bound (T := T) (ws := natsL ws) (by omega) (by rw [natsL_len]; omega)
        rw [natsL_len] at this
        exact ⟨this.1, by omega⟩
      · have h0 : S = 0 := by omega
        have hT0 : T = 0 := by
          by_cases h2 : 0 < T
          · exact absurd ⟨h0, h2⟩ hz
          · omega
        have hz0 : ∀ l : List Nat, (l.map fun w => T * w / 0).sum = 0 := by
          intro l
          induction l with
          | nil => rfl
          | cons w l ih => rw [List.map_cons, List.sum_cons, ih, Nat.div_zero]
        have hs0 : sumQ T S (natsL ws) ws.length = 0 := by rw [e, h0]; exact hz0 _
        omega
    simp only [dk, d1, AW, reduceAdd, reduceCtorEq, reduceEqDiff, ↓reduceIte, reduceLT, reduceLeDiff, reduceSub, reducePow, reduceMul, reduceToNat, reduceLE, reduceEq, Int.reduceLT, Int.reduceBEq, Int.reduceBNe]
    cases m1 : ((S : Int) == 0)
    · simp only [AW, reduceAdd, reduceCtorEq, reduceEqDiff, ↓reduceIte, reduceLT, reduceLeDiff, reduceSub, reducePow, reduceMul, reduceToNat, reduceLE, reduceEq, Int.reduceLT, Int.reduceBEq, Int.reduceBNe]
      simp only [f0, f2, f3, AW, reduceAdd, reduceCtorEq, reduceEqDiff, ↓reduceIte, reduceLT, reduceLeDiff, reduceSub, reducePow, reduceMul, reduceToNat, reduceLE, reduceEq, Int.reduceLT, Int.reduceBEq, Int.reduceBNe]
      refine drawnK rfl ?_
      (try simp only [List.length_map, AW, reduceAdd, reduceCtorEq, reduceEqDiff, ↓reduceIte, reduceLT, reduceLeDiff, reduceSub, reducePow, reduceMul, reduceToNat, reduceLE, reduceEq, Int.reduceLT, Int.reduceBEq, Int.reduceBNe])
      refine run_loop (ι := Nat) (fun k => ⟨[(0, .sc (.int .i64 (T : Int))), (6, .sc (.int .i64 (S : Int))), (9, .own 28 0), (10, .ptr 35 0), (11, .own 34 0), (12, .sc (.int .i64 ((T - sumQ T S (natsL ws) k : Nat) : Int))), (58, .sl (ws.map intP)), (59, .sc (.int .i64 (ws.length : Int))), (60, .sc (.int .i64 (k : Int)))], [(28, .row 3 1 0 ((tabI ws.length fun i => if i < k then (qN T S (natsL ws) i : Int) else 0).map intP)), (31, .row 3 1 0 ((tabI ws.length fun i => if i < k then (rN T S (natsL ws) i : Int) else 0).map intP)), (34, .row 3 1 0 ((tabI ws.length fun i => if i < k then (i : Int) else 0).map intP)), (35, .var [.own 31 0])], 44, 109⟩) (fun k => k ≤ ws.length) (fun k => ws.length - k) 44 (fun _ => rfl) 0 (by simp only [LW, Nat.reduceMod, Nat.reduceDiv, Int.natCast_zero, j1, j2, j3, List.map_replicate, intP, sq0, Nat.sub_zero, AW, reduceAdd, reduceCtorEq, reduceEqDiff, ↓reduceIte, reduceLT, reduceLeDiff, reduceSub, reducePow, reduceMul, reduceToNat, reduceLE, reduceEq, Int.reduceLT, Int.reduceBEq, Int.reduceBNe]) (Nat.zero_le _) (fun k hk => ?_)
      have gk := hk
      by_cases hltk : k < ws.length
      rotate_left
      · have dk : decide ((k : Int) < ((ws.length : Nat) : Int)) = false := by rw [decide_eq_false_iff_not]; exact fun h => hltk (Int.ofNat_lt.1 h)
        have ek : k = ws.length := Nat.le_antisymm gk (Nat.le_of_not_lt hltk)
        subst ek
        have e5 : (tabI ws.length fun i => if i < ws.length then (qN T S (natsL ws) i : Int) else 0) = (tabI ws.length fun i => (qN T S (natsL ws) i : Int) + if rankR (rN T S (natsL ws)) ws.length i < 0 then 1 else 0) := tab_congr (fun i hi => by rw [if_pos hi, if_neg (Nat.not_lt_zero _)]; omega)
        have e6 : (tabI ws.length fun i => if i < ws.length then (rN T S (natsL ws) i : Int) else 0) = (tabI ws.length fun i => (rN T S (natsL ws) i : Int)) := tab_congr (fun i hi => by rw [if_pos hi])
        have e7 : (tabI ws.length fun i => if i < ws.length then (i : Int) else 0) = tabI ws.length (fun i => (i : Int)) := tab_congr (fun i hi => by rw [if_pos hi])
        obtain ⟨l2, h2⟩ := order_exists (rN T S (natsL ws)) ws.length
        obtain ⟨L, hL⟩ : ∃ L, L = T - sumQ T S (natsL ws) ws.length := ⟨_, rfl⟩
        rw [← hL] at hqs ⊢
        have tl := tab_len ws.length (fun i => (i : Int))
        have hsrt := sortStable_m (cmp_ok ws.length (rN T S (natsL ws)) (fun i hi => rle i hi) (by omega)) (l := tabI ws.length (fun i => (i : Int))) (l2 := l2) (by rw [tl]; omega) (fun i j h1 h3 => by rw [tl] at h3; rw [tab_el (by omega), tab_el h3]; omega) (fun x hx => by
          unfold tabI at hx
          obtain ⟨i, hi, rfl⟩ := List.mem_map.1 hx
          exact ⟨i, List.mem_range.1 hi, rfl⟩) (by rw [tl]; exact h2)
        simp only [dk, e5, e6, e7, AW, reduceAdd, reduceCtorEq, reduceEqDiff, ↓reduceIte, reduceLT, reduceLeDiff, reduceSub, reducePow, reduceMul, reduceToNat, reduceLE, reduceEq, Int.reduceLT, Int.reduceBEq, Int.reduceBNe]
        refine ops_callM (s := 34) (ver := 0) [] [.clo 43 [.bx (.sl ((tabI ws.length fun i => (rN T S (natsL ws) i : Int)).map intP))]] hsrt (by simp only [AW, reduceAdd, reduceCtorEq, reduceEqDiff, ↓reduceIte, reduceLT, reduceLeDiff, reduceSub, reducePow, reduceMul, reduceToNat, reduceLE, reduceEq, Int.reduceLT, Int.reduceBEq, Int.reduceBNe]) (by simp only [AW, reduceAdd, reduceCtorEq, reduceEqDiff, ↓reduceIte, reduceLT, reduceLeDiff, reduceSub, reducePow, reduceMul, reduceToNat, reduceLE, reduceEq, Int.reduceLT, Int.reduceBEq, Int.reduceBNe]) (by simp only [List.not_mem_nil, AW, reduceAdd, reduceCtorEq, reduceEqDiff, ↓reduceIte, reduceLT, reduceLeDiff, reduceSub, reducePow, reduceMul, reduceToNat, reduceLE, reduceEq, Int.reduceLT, Int.reduceBEq, Int.reduceBNe]) (by simp only [AW, reduceAdd, reduceCtorEq, reduceEqDiff, ↓reduceIte, reduceLT, reduceLeDiff, reduceSub, reducePow, reduceMul, reduceToNat, reduceLE, reduceEq, Int.reduceLT, Int.reduceBEq, Int.reduceBNe]) (by simp only [AW, reduceAdd, reduceCtorEq, reduceEqDiff, ↓reduceIte, reduceLT, reduceLeDiff, reduceSub, reducePow, reduceMul, reduceToNat, reduceLE, reduceEq, Int.reduceLT, Int.reduceBEq, Int.reduceBNe]) ?_
        simp only [tl, List.length_map, AW, reduceAdd, reduceCtorEq, reduceEqDiff, ↓reduceIte, reduceLT, reduceLeDiff, reduceSub, reducePow, reduceMul, reduceToNat, reduceLE, reduceEq, Int.reduceLT, Int.reduceBEq, Int.reduceBNe]
        refine run_loop (ι := Nat) (fun k => ⟨[(9, .own 28 0), (11, .own 34 0), (94, .sc (.int .i64 (L : Int))), (95, .sc (.int .i64 (k : Int)))], [(28, .row 3 1 0 ((tabI ws.length fun i => (qN T S (natsL ws) i : Int) + if rankR (rN T S (natsL ws)) ws.length i < k then 1 else 0).map intP)), (31, .frz 0 ((tabI ws.length fun i => (rN T S (natsL ws) i : Int)).map intP)), (34, .row 3 1 0 (l2.map intP)), (35, .fix (.sl ((tabI ws.length fun i => (rN T S (natsL ws) i : Int)).map intP)))], 50, 109⟩) (fun k => k ≤ L) (fun k => L - k) 50 (fun _ => rfl) 0 (by simp only [LW, Nat.reduceMod, Nat.reduceDiv, Int.natCast_zero, AW, reduceAdd, reduceCtorEq, reduceEqDiff, ↓reduceIte, reduceLT, reduceLeDiff, reduceSub, reducePow, reduceMul, reduceToNat, reduceLE, reduceEq, Int.reduceLT, Int.reduceBEq, Int.reduceBNe]) (Nat.zero_le _) (fun k hk => ?_)
        have gk := hk
        by_cases hltk : k < L
        rotate_left
        · have dk : decide ((k : Int) < ((L : Nat) : Int)) = false := by rw [decide_eq_false_iff_not]; exact fun h => hltk (Int.ofNat_lt.1 h)
          have ek : k = L := Nat.le_antisymm gk (Nat.le_of_not_lt hltk)
          subst ek
          have fin : (tabI ws.length fun i => (qN T S (natsL ws) i : Int) + if rankR (rN T S (natsL ws)) ws.length i < k then 1 else 0) = shareN T (natsL ws) := by unfold shareN leftN; rw [natsL_len, ← hS, ← hL]
          simp only [dk, fin, AW, reduceAdd, reduceCtorEq, reduceEqDiff, ↓reduceIte, reduceLT, reduceLeDiff, reduceSub, reducePow, reduceMul, reduceToNat, reduceLE, reduceEq, Int.reduceLT, Int.reduceBEq, Int.reduceBNe]
        have dk : decide ((k : Int) < ((L : Nat) : Int)) = true := by rw [decide_eq_true_eq]; exact Int.ofNat_lt.2 hltk
        have hkn : k < ws.length := by omega
        obtain ⟨e, he, ee⟩ := order_nat h2 hkn
        have re := order_rank h2 hkn ee
        have ol := order_len h2
        have b1 : k < l2.length := by omega
        have b2 : e < (tabI ws.length fun i => (qN T S (natsL ws) i : Int) + if rankR (rN T S (natsL ws)) ws.length i < k then 1 else 0).length := by rw [tab_len]; exact he
        have e1 : el (tabI ws.length fun i => (qN T S (natsL ws) i : Int) + if rankR (rN T S (natsL ws)) ws.length i < k then 1 else 0) e = (qN T S (natsL ws) e : Int) := by rw [tab_el he, re, if_neg (Nat.lt_irrefl k)]; omega
        have hq := qle e he
        have w3 : IntKind.i64.wrap ((qN T S (natsL ws) e : Int) + 1) = (qN T S (natsL ws) e : Int) + 1 := wrap_id (by unfold I64; omega)
        have s1 : ((tabI ws.length fun i => (qN T S (natsL ws) i : Int) + if rankR (rN T S (natsL ws)) ws.length i < k then 1 else 0).map intP).set e (.sc (.int .i64 ((qN T S (natsL ws) e : Int) + 1))) = (tabI ws.length fun i => (qN T S (natsL ws) i : Int) + if rankR (rN T S (natsL ws)) ws.length i < (k + 1) then 1 else 0).map intP := by
          show ((tabI ws.length fun i => (qN T S (natsL ws) i : Int) + if rankR (rN T S (natsL ws)) ws.length i < k then 1 else 0).map intP).set e (intP ((qN T S (natsL ws) e : Int) + 1)) = _
          rw [← List.map_set, tab_set]
          congr 1
          refine tab_congr (fun i hi => ?_)
          (try simp only)
          by_cases hie : i = e
          · subst hie; rw [if_pos rfl, re, if_pos (Nat.lt_succ_self k)]
          · rw [if_neg hie]
            have : rankR (rN T S (natsL ws)) ws.length i ≠ k := fun h => hie (rank_inj h2 hi hkn ee h)
            by_cases hlt : rankR (rN T S (natsL ws)) ws.length i < k
            · rw [if_pos hlt, if_pos (by omega)]
            · rw [if_neg hlt, if_neg (by omega)]
        simp only [dk, List.length_map, b1, map_el b1, ee, b2, map_el b2, e1, w3, s1, AW, reduceAdd, reduceCtorEq, reduceEqDiff, ↓reduceIte, reduceLT, reduceLeDiff, reduceSub, reducePow, reduceMul, reduceToNat, reduceLE, reduceEq, Int.reduceLT, Int.reduceBEq, Int.reduceBNe]
        (try simp only [wrap_succ hltk (show L ≤ maxLen by unfold maxLen; omega), AW, reduceAdd, reduceCtorEq, reduceEqDiff, ↓reduceIte, reduceLT, reduceLeDiff, reduceSub, reducePow, reduceMul, reduceToNat, reduceLE, reduceEq, Int.reduceLT, Int.reduceBEq, Int.reduceBNe])
        refine ⟨k + 1, hltk, ?_, meas_lt hltk⟩
        simp only [LW, Nat.reduceMod, Nat.reduceDiv, AW, reduceAdd, reduceCtorEq, reduceEqDiff, ↓reduceIte, reduceLT, reduceLeDiff, reduceSub, reducePow, reduceMul, reduceToNat, reduceLE, reduceEq, Int.reduceLT, Int.reduceBEq, Int.reduceBNe]
      have dk : decide ((k : Int) < ((ws.length : Nat) : Int)) = true := by rw [decide_eq_true_eq]; exact Int.ofNat_lt.2 hltk
      have wk := natsL_get hall hltk
      have hwk : (natsL ws).getD k 0 ≤ S := by rw [hS]; exact le_sum (by rw [natsL_len]; exact hltk)
      have hsq : sumQ T S (natsL ws) (k + 1) ≤ sumQ T S (natsL ws) ws.length := by rw [← natsL_len ws]; exact sumQ_le (ws.length - (k + 1)) (k + 1) (by rw [natsL_len]; omega)
      have hsk := sumQ_succ (T := T) (S := S) (ws := natsL ws) (k := k) (by rw [natsL_len]; exact hltk)
      have w2 : IntKind.i64.wrap (((T - sumQ T S (natsL ws) k : Nat) : Int) - (qN T S (natsL ws) k : Int)) = ((T - sumQ T S (natsL ws) (k + 1) : Nat) : Int) := by
        rw [wrap_id (by unfold I64; omega)]; omega
      have o1 := tab_step ws.length k (fun i => (i : Int))
      have p1 := tab_step ws.length k (fun i => (qN T S (natsL ws) i : Int))
      have r1 := tab_step ws.length k (fun i => (rN T S (natsL ws) i : Int))
      have e1 : el (tabI ws.length fun i => if i < (k + 1) then (qN T S (natsL ws) i : Int) else 0) k = (qN T S (natsL ws) k : Int) := by rw [tab_el hltk, if_pos (Nat.lt_succ_self k)]
      have b1 : k < (tabI ws.length fun i => if i < (k + 1) then (qN T S (natsL ws) i : Int) else 0).length := by rw [tab_len]; exact hltk
      by_cases hS0 : 0 < S
      · have d3 : decide ((0 : Int) < (S : Int)) = true := by rw [decide_eq_true_eq]; omega
        have hq : T * (natsL ws).getD k 0 / S ≤ T := by
          rw [Nat.div_le_iff_le_mul_add_pred hS0]
          have : T * (natsL ws).getD k 0 ≤ T * S := Nat.mul_le_mul_left _ hwk
          rw [Nat.mul_comm S T]; omega
        have hg := quotient_g T ((natsL ws).getD k 0) S hT (by omega) hS0 hs2 (by omega)
        rw [← wk] at hg
        change Good Tryd.prog _ _ (.tup [intP (qN T S (natsL ws) k : Int), intP (rN T S (natsL ws) k : Int)]) at hg
        simp only [dk, map_getD hltk, hltk, intP, List.length_map, List.length_set, tab_len, o1, d3, AW, reduceAdd, reduceCtorEq, reduceEqDiff, ↓reduceIte, reduceLT, reduceLeDiff, reduceSub, reducePow, reduceMul, reduceToNat, reduceLE, reduceEq, Int.reduceLT, Int.reduceBEq, Int.reduceBNe]
        refine ops_call (hg) (by simp only [intP, AW, reduceAdd, reduceCtorEq, reduceEqDiff, ↓reduceIte, reduceLT, reduceLeDiff, reduceSub, reducePow, reduceMul, reduceToNat, reduceLE, reduceEq, Int.reduceLT, Int.reduceBEq, Int.reduceBNe]) ?_; simp only [intP, AW, reduceAdd, reduceCtorEq, reduceEqDiff, ↓reduceIte, reduceLT, reduceLeDiff, reduceSub, reducePow, reduceMul, reduceToNat, reduceLE, reduceEq, Int.reduceLT, Int.reduceBEq, Int.reduceBNe]
        simp only [List.length_map, List.length_set, tab_len, hltk, p1, r1, AW, reduceAdd, reduceCtorEq, reduceEqDiff, ↓reduceIte, reduceLT, reduceLeDiff, reduceSub, reducePow, reduceMul, reduceToNat, reduceLE, reduceEq, Int.reduceLT, Int.reduceBEq, Int.reduceBNe]
        refine drawnK rfl ?_
        (try simp only [List.length_map, b1, map_el b1, e1, w2, hltk, tab_len, AW, reduceAdd, reduceCtorEq, reduceEqDiff, ↓reduceIte, reduceLT, reduceLeDiff, reduceSub, reducePow, reduceMul, reduceToNat, reduceLE, reduceEq, Int.reduceLT, Int.reduceBEq, Int.reduceBNe])
        (try simp only [wrap_succ hltk hlen, AW, reduceAdd, reduceCtorEq, reduceEqDiff, ↓reduceIte, reduceLT, reduceLeDiff, reduceSub, reducePow, reduceMul, reduceToNat, reduceLE, reduceEq, Int.reduceLT, Int.reduceBEq, Int.reduceBNe])
        refine ⟨k + 1, hltk, ?_, meas_lt hltk⟩
        simp only [LW, Nat.reduceMod, Nat.reduceDiv, AW, reduceAdd, reduceCtorEq, reduceEqDiff, ↓reduceIte, reduceLT, reduceLeDiff, reduceSub, reducePow, reduceMul, reduceToNat, reduceLE, reduceEq, Int.reduceLT, Int.reduceBEq, Int.reduceBNe]
      · have d3 : decide ((0 : Int) < (S : Int)) = false := by rw [decide_eq_false_iff_not]; omega
        have hS00 : S = 0 := by omega
        have hT0 : T = 0 := by
          by_cases h2 : 0 < T
          · exact absurd ⟨hS00, h2⟩ hz
          · omega
        have pe : (tabI ws.length fun i => if i < k then (qN T S (natsL ws) i : Int) else 0) = (tabI ws.length fun i => if i < (k + 1) then (qN T S (natsL ws) i : Int) else 0) := tab_congr (fun i _ => by simp only [qN, hS00, Nat.div_zero, Int.natCast_zero, ite_self])
        have re : (tabI ws.length fun i => if i < k then (rN T S (natsL ws) i : Int) else 0) = (tabI ws.length fun i => if i < (k + 1) then (rN T S (natsL ws) i : Int) else 0) := tab_congr (fun i _ => by simp only [rN, hT0, Nat.zero_mul, Nat.zero_mod, Int.natCast_zero, ite_self])
        simp only [dk, map_getD hltk, hltk, intP, List.length_map, List.length_set, tab_len, o1, d3, pe, re, map_el b1, e1, w2, AW, reduceAdd, reduceCtorEq, reduceEqDiff, ↓reduceIte, reduceLT, reduceLeDiff, reduceSub, reducePow, reduceMul, reduceToNat, reduceLE, reduceEq, Int.reduceLT, Int.reduceBEq, Int.reduceBNe]
        (try simp only [wrap_succ hltk hlen, AW, reduceAdd, reduceCtorEq, reduceEqDiff, ↓reduceIte, reduceLT, reduceLeDiff, reduceSub, reducePow, reduceMul, reduceToNat, reduceLE, reduceEq, Int.reduceLT, Int.reduceBEq, Int.reduceBNe])
        refine ⟨k + 1, hltk, ?_, meas_lt hltk⟩
        simp only [LW, Nat.reduceMod, Nat.reduceDiv, AW, reduceAdd, reduceCtorEq, reduceEqDiff, ↓reduceIte, reduceLT, reduceLeDiff, reduceSub, reducePow, reduceMul, reduceToNat, reduceLE, reduceEq, Int.reduceLT, Int.reduceBEq, Int.reduceBNe]
    · have m2 : decide ((0 : Int) < (T : Int)) = false := by
        rw [decide_eq_false_iff_not]
        intro h
        exact hz ⟨by have := beq_iff_eq.1 m1; omega, by omega⟩
      simp only [m2, AW, reduceAdd, reduceCtorEq, reduceEqDiff, ↓reduceIte, reduceLT, reduceLeDiff, reduceSub, reducePow, reduceMul, reduceToNat, reduceLE, reduceEq, Int.reduceLT, Int.reduceBEq, Int.reduceBNe]
      simp only [f0, f2, f3, AW, reduceAdd, reduceCtorEq, reduceEqDiff, ↓reduceIte, reduceLT, reduceLeDiff, reduceSub, reducePow, reduceMul, reduceToNat, reduceLE, reduceEq, Int.reduceLT, Int.reduceBEq, Int.reduceBNe]
      refine drawnK rfl ?_
      (try simp only [List.length_map, AW, reduceAdd, reduceCtorEq, reduceEqDiff, ↓reduceIte, reduceLT, reduceLeDiff, reduceSub, reducePow, reduceMul, reduceToNat, reduceLE, reduceEq, Int.reduceLT, Int.reduceBEq, Int.reduceBNe])
      refine run_loop (ι := Nat) (fun k => ⟨[(0, .sc (.int .i64 (T : Int))), (6, .sc (.int .i64 (S : Int))), (9, .own 28 0), (10, .ptr 35 0), (11, .own 34 0), (12, .sc (.int .i64 ((T - sumQ T S (natsL ws) k : Nat) : Int))), (58, .sl (ws.map intP)), (59, .sc (.int .i64 (ws.length : Int))), (60, .sc (.int .i64 (k : Int)))], [(28, .row 3 1 0 ((tabI ws.length fun i => if i < k then (qN T S (natsL ws) i : Int) else 0).map intP)), (31, .row 3 1 0 ((tabI ws.length fun i => if i < k then (rN T S (natsL ws) i : Int) else 0).map intP)), (34, .row 3 1 0 ((tabI ws.length fun i => if i < k then (i : Int) else 0).map intP)), (35, .var [.own 31 0])], 44, 109⟩) (fun k => k ≤ ws.length) (fun k => ws.length - k) 44 (fun _ => rfl) 0 (by simp only [LW, Nat.reduceMod, Nat.reduceDiv, Int.natCast_zero, j1, j2, j3, List.map_replicate, intP, sq0, Nat.sub_zero, AW, reduceAdd, reduceCtorEq, reduceEqDiff, ↓reduceIte, reduceLT, reduceLeDiff, reduceSub, reducePow, reduceMul, reduceToNat, reduceLE, reduceEq, Int.reduceLT, Int.reduceBEq, Int.reduceBNe]) (Nat.zero_le _) (fun k hk => ?_)
      have gk := hk
      by_cases hltk : k < ws.length
      rotate_left
      · have dk : decide ((k : Int) < ((ws.length : Nat) : Int)) = false := by rw [decide_eq_false_iff_not]; exact fun h => hltk (Int.ofNat_lt.1 h)
        have ek : k = ws.length := Nat.le_antisymm gk (Nat.le_of_not_lt hltk)
        subst ek
        have e5 : (tabI ws.length fun i => if i < ws.length then (qN T S (natsL ws) i : Int) else 0) = (tabI ws.length fun i => (qN T S (natsL ws) i : Int) + if rankR (rN T S (natsL ws)) ws.length i < 0 then 1 else 0) := tab_congr (fun i hi => by rw [if_pos hi, if_neg (Nat.not_lt_zero _)]; omega)
        have e6 : (tabI ws.length fun i => if i < ws.length then (rN T S (natsL ws) i : Int) else 0) = (tabI ws.length fun i => (rN T S (natsL ws) i : Int)) := tab_congr (fun i hi => by rw [if_pos hi])
        have e7 : (tabI ws.length fun i => if i < ws.length then (i : Int) else 0) = tabI ws.length (fun i => (i : Int)) := tab_congr (fun i hi => by rw [if_pos hi])
        obtain ⟨l2, h2⟩ := order_exists (rN T S (natsL ws)) ws.length
        obtain ⟨L, hL⟩ : ∃ L, L = T - sumQ T S (natsL ws) ws.length := ⟨_, rfl⟩
        rw [← hL] at hqs ⊢
        have tl := tab_len ws.length (fun i => (i : Int))
        have hsrt := sortStable_m (cmp_ok ws.length (rN T S (natsL ws)) (fun i hi => rle i hi) (by omega)) (l := tabI ws.length (fun i => (i : Int))) (l2 := l2) (by rw [tl]; omega) (fun i j h1 h3 => by rw [tl] at h3; rw [tab_el (by omega), tab_el h3]; omega) (fun x hx => by
          unfold tabI at hx
          obtain ⟨i, hi, rfl⟩ := List.mem_map.1 hx
          exact ⟨i, List.mem_range.1 hi, rfl⟩) (by rw [tl]; exact h2)
        simp only [dk, e5, e6, e7, AW, reduceAdd, reduceCtorEq, reduceEqDiff, ↓reduceIte, reduceLT, reduceLeDiff, reduceSub, reducePow, reduceMul, reduceToNat, reduceLE, reduceEq, Int.reduceLT, Int.reduceBEq, Int.reduceBNe]
        refine ops_callM (s := 34) (ver := 0) [] [.clo 43 [.bx (.sl ((tabI ws.length fun i => (rN T S (natsL ws) i : Int)).map intP))]] hsrt (by simp only [AW, reduceAdd, reduceCtorEq, reduceEqDiff, ↓reduceIte, reduceLT, reduceLeDiff, reduceSub, reducePow, reduceMul, reduceToNat, reduceLE, reduceEq, Int.reduceLT, Int.reduceBEq, Int.reduceBNe]) (by simp only [AW, reduceAdd, reduceCtorEq, reduceEqDiff, ↓reduceIte, reduceLT, reduceLeDiff, reduceSub, reducePow, reduceMul, reduceToNat, reduceLE, reduceEq, Int.reduceLT, Int.reduceBEq, Int.reduceBNe]) (by simp only [List.not_mem_nil, AW, reduceAdd, reduceCtorEq, reduceEqDiff, ↓reduceIte, reduceLT, reduceLeDiff, reduceSub, reducePow, reduceMul, reduceToNat, reduceLE, reduceEq, Int.reduceLT, Int.reduceBEq, Int.reduceBNe]) (by simp only [AW, reduceAdd, reduceCtorEq, reduceEqDiff, ↓reduceIte, reduceLT, reduceLeDiff, reduceSub, reducePow, reduceMul, reduceToNat, reduceLE, reduceEq, Int.reduceLT, Int.reduceBEq, Int.reduceBNe]) (by simp only [AW, reduceAdd, reduceCtorEq, reduceEqDiff, ↓reduceIte, reduceLT, reduceLeDiff, reduceSub, reducePow, reduceMul, reduceToNat, reduceLE, reduceEq, Int.reduceLT, Int.reduceBEq, Int.reduceBNe]) ?_
        simp only [tl, List.length_map, AW, reduceAdd, reduceCtorEq, reduceEqDiff, ↓reduceIte, reduceLT, reduceLeDiff, reduceSub, reducePow, reduceMul, reduceToNat, reduceLE, reduceEq, Int.reduceLT, Int.reduceBEq, Int.reduceBNe]
        refine run_loop (ι := Nat) (fun k => ⟨[(9, .own 28 0), (11, .own 34 0), (94, .sc (.int .i64 (L : Int))), (95, .sc (.int .i64 (k : Int)))], [(28, .row 3 1 0 ((tabI ws.length fun i => (qN T S (natsL ws) i : Int) + if rankR (rN T S (natsL ws)) ws.length i < k then 1 else 0).map intP)), (31, .frz 0 ((tabI ws.length fun i => (rN T S (natsL ws) i : Int)).map intP)), (34, .row 3 1 0 (l2.map intP)), (35, .fix (.sl ((tabI ws.length fun i => (rN T S (natsL ws) i : Int)).map intP)))], 50, 109⟩) (fun k => k ≤ L) (fun k => L - k) 50 (fun _ => rfl) 0 (by simp only [LW, Nat.reduceMod, Nat.reduceDiv, Int.natCast_zero, AW, reduceAdd, reduceCtorEq, reduceEqDiff, ↓reduceIte, reduceLT, reduceLeDiff, reduceSub, reducePow, reduceMul, reduceToNat, reduceLE, reduceEq, Int.reduceLT, Int.reduceBEq, Int.reduceBNe]) (Nat.zero_le _) (fun k hk => ?_)
        have gk := hk
        by_cases hltk : k < L
        rotate_left
        · have dk : decide ((k : Int) < ((L : Nat) : Int)) = false := by rw [decide_eq_false_iff_not]; exact fun h => hltk (Int.ofNat_lt.1 h)
          have ek : k = L := Nat.le_antisymm gk (Nat.le_of_not_lt hltk)
          subst ek
          have fin : (tabI ws.length fun i => (qN T S (natsL ws) i : Int) + if rankR (rN T S (natsL ws)) ws.length i < k then 1 else 0) = shareN T (natsL ws) := by unfold shareN leftN; rw [natsL_len, ← hS, ← hL]
          simp only [dk, fin, AW, reduceAdd, reduceCtorEq, reduceEqDiff, ↓reduceIte, reduceLT, reduceLeDiff, reduceSub, reducePow, reduceMul, reduceToNat, reduceLE, reduceEq, Int.reduceLT, Int.reduceBEq, Int.reduceBNe]
        have dk : decide ((k : Int) < ((L : Nat) : Int)) = true := by rw [decide_eq_true_eq]; exact Int.ofNat_lt.2 hltk
        have hkn : k < ws.length := by omega
        obtain ⟨e, he, ee⟩ := order_nat h2 hkn
        have re := order_rank h2 hkn ee
        have ol := order_len h2
        have b1 : k < l2.length := by omega
        have b2 : e < (tabI ws.length fun i => (qN T S (natsL ws) i : Int) + if rankR (rN T S (natsL ws)) ws.length i < k then 1 else 0).length := by rw [tab_len]; exact he
        have e1 : el (tabI ws.length fun i => (qN T S (natsL ws) i : Int) + if rankR (rN T S (natsL ws)) ws.length i < k then 1 else 0) e = (qN T S (natsL ws) e : Int) := by rw [tab_el he, re, if_neg (Nat.lt_irrefl k)]; omega
        have hq := qle e he
        have w3 : IntKind.i64.wrap ((qN T S (natsL ws) e : Int) + 1) = (qN T S (natsL ws) e : Int) + 1 := wrap_id (by unfold I64; omega)
        have s1 : ((tabI ws.length fun i => (qN T S (natsL ws) i : Int) + if rankR (rN T S (natsL ws)) ws.length i < k then 1 else 0).map intP).set e (.sc (.int .i64 ((qN T S (natsL ws) e : Int) + 1))) = (tabI ws.length fun i => (qN T S (natsL ws) i : Int) + if rankR (rN T S (natsL ws)) ws.length i < (k + 1) then 1 else 0).map intP := by
          show ((tabI ws.length fun i => (qN T S (natsL ws) i : Int) + if rankR (rN T S (natsL ws)) ws.length i < k then 1 else 0).map intP).set e (intP ((qN T S (natsL ws) e : Int) + 1)) = _
          rw [← List.map_set, tab_set]
          congr 1
          refine tab_congr (fun i hi => ?_)
          (try simp only)
          by_cases hie : i = e
          · subst hie; rw [if_pos rfl, re, if_pos (Nat.lt_succ_self k)]
          · rw [if_neg hie]
            have : rankR (rN T S (natsL ws)) ws.length i ≠ k := fun h => hie (rank_inj h2 hi hkn ee h)
            by_cases hlt : rankR (rN T S (natsL ws)) ws.length i < k
            · rw [if_pos hlt, if_pos (by omega)]
            · rw [if_neg hlt, if_neg (by omega)]
        simp only [dk, List.length_map, b1, map_el b1, ee, b2, map_el b2, e1, w3, s1, AW, reduceAdd, reduceCtorEq, reduceEqDiff, ↓reduceIte, reduceLT, reduceLeDiff, reduceSub, reducePow, reduceMul, reduceToNat, reduceLE, reduceEq, Int.reduceLT, Int.reduceBEq, Int.reduceBNe]
        (try simp only [wrap_succ hltk (show L ≤ maxLen by unfold maxLen; omega), AW, reduceAdd, reduceCtorEq, reduceEqDiff, ↓reduceIte, reduceLT, reduceLeDiff, reduceSub, reducePow, reduceMul, reduceToNat, reduceLE, reduceEq, Int.reduceLT, Int.reduceBEq, Int.reduceBNe])
        refine ⟨k + 1, hltk, ?_, meas_lt hltk⟩
        simp only [LW, Nat.reduceMod, Nat.reduceDiv, AW, reduceAdd, reduceCtorEq, reduceEqDiff, ↓reduceIte, reduceLT, reduceLeDiff, reduceSub, reducePow, reduceMul, reduceToNat, reduceLE, reduceEq, Int.reduceLT, Int.reduceBEq, Int.reduceBNe]
      have dk : decide ((k : Int) < ((ws.length : Nat) : Int)) = true := by rw [decide_eq_true_eq]; exact Int.ofNat_lt.2 hltk
      have wk := natsL_get hall hltk
      have hwk : (natsL ws).getD k 0 ≤ S := by rw [hS]; exact le_sum (by rw [natsL_len]; exact hltk)
      have hsq : sumQ T S (natsL ws) (k + 1) ≤ sumQ T S (natsL ws) ws.length := by rw [← natsL_len ws]; exact sumQ_le (ws.length - (k + 1)) (k + 1) (by rw [natsL_len]; omega)
      have hsk := sumQ_succ (T := T) (S := S) (ws := natsL ws) (k := k) (by rw [natsL_len]; exact hltk)
      have w2 : IntKind.i64.wrap (((T - sumQ T S (natsL ws) k : Nat) : Int) - (qN T S (natsL ws) k : Int)) = ((T - sumQ T S (natsL ws) (k + 1) : Nat) : Int) := by
        rw [wrap_id (by unfold I64; omega)]; omega
      have o1 := tab_step ws.length k (fun i => (i : Int))
      have p1 := tab_step ws.length k (fun i => (qN T S (natsL ws) i : Int))
      have r1 := tab_step ws.length k (fun i => (rN T S (natsL ws) i : Int))
      have e1 : el (tabI ws.length fun i => if i < (k + 1) then (qN T S (natsL ws) i : Int) else 0) k = (qN T S (natsL ws) k : Int) := by rw [tab_el hltk, if_pos (Nat.lt_succ_self k)]
      have b1 : k < (tabI ws.length fun i => if i < (k + 1) then (qN T S (natsL ws) i : Int) else 0).length := by rw [tab_len]; exact hltk
      by_cases hS0 : 0 < S
      · have d3 : decide ((0 : Int) < (S : Int)) = true := by rw [decide_eq_true_eq]; omega
        have hq : T * (natsL ws).getD k 0 / S ≤ T := by
          rw [Nat.div_le_iff_le_mul_add_pred hS0]
          have : T * (natsL ws).getD k 0 ≤ T * S := Nat.mul_le_mul_left _ hwk
          rw [Nat.mul_comm S T]; omega
        have hg := quotient_g T ((natsL ws).getD k 0) S hT (by omega) hS0 hs2 (by omega)
        rw [← wk] at hg
        change Good Tryd.prog _ _ (.tup [intP (qN T S (natsL ws) k : Int), intP (rN T S (natsL ws) k : Int)]) at hg
        simp only [dk, map_getD hltk, hltk, intP, List.length_map, List.length_set, tab_len, o1, d3, AW, reduceAdd, reduceCtorEq, reduceEqDiff, ↓reduceIte, reduceLT, reduceLeDiff, reduceSub, reducePow, reduceMul, reduceToNat, reduceLE, reduceEq, Int.reduceLT, Int.reduceBEq, Int.reduceBNe]
        refine ops_call (hg) (by simp only [intP, AW, reduceAdd, reduceCtorEq, reduceEqDiff, ↓reduceIte, reduceLT, reduceLeDiff, reduceSub, reducePow, reduceMul, reduceToNat, reduceLE, reduceEq, Int.reduceLT, Int.reduceBEq, Int.reduceBNe]) ?_; simp only [intP, AW, reduceAdd, reduceCtorEq, reduceEqDiff, ↓reduceIte, reduceLT, reduceLeDiff, reduceSub, reducePow, reduceMul, reduceToNat, reduceLE, reduceEq, Int.reduceLT, Int.reduceBEq, Int.reduceBNe]
        simp only [List.length_map, List.length_set, tab_len, hltk, p1, r1, AW, reduceAdd, reduceCtorEq, reduceEqDiff, ↓reduceIte, reduceLT, reduceLeDiff, reduceSub, reducePow, reduceMul, reduceToNat, reduceLE, reduceEq, Int.reduceLT, Int.reduceBEq, Int.reduceBNe]
        refine drawnK rfl ?_
        (try simp only [List.length_map, b1, map_el b1, e1, w2, hltk, tab_len, AW, reduceAdd, reduceCtorEq, reduceEqDiff, ↓reduceIte, reduceLT, reduceLeDiff, reduceSub, reducePow, reduceMul, reduceToNat, reduceLE, reduceEq, Int.reduceLT, Int.reduceBEq, Int.reduceBNe])
        (try simp only [wrap_succ hltk hlen, AW, reduceAdd, reduceCtorEq, reduceEqDiff, ↓reduceIte, reduceLT, reduceLeDiff, reduceSub, reducePow, reduceMul, reduceToNat, reduceLE, reduceEq, Int.reduceLT, Int.reduceBEq, Int.reduceBNe])
        refine ⟨k + 1, hltk, ?_, meas_lt hltk⟩
        simp only [LW, Nat.reduceMod, Nat.reduceDiv, AW, reduceAdd, reduceCtorEq, reduceEqDiff, ↓reduceIte, reduceLT, reduceLeDiff, reduceSub, reducePow, reduceMul, reduceToNat, reduceLE, reduceEq, Int.reduceLT, Int.reduceBEq, Int.reduceBNe]
      · have d3 : decide ((0 : Int) < (S : Int)) = false := by rw [decide_eq_false_iff_not]; omega
        have hS00 : S = 0 := by omega
        have hT0 : T = 0 := by
          by_cases h2 : 0 < T
          · exact absurd ⟨hS00, h2⟩ hz
          · omega
        have pe : (tabI ws.length fun i => if i < k then (qN T S (natsL ws) i : Int) else 0) = (tabI ws.length fun i => if i < (k + 1) then (qN T S (natsL ws) i : Int) else 0) := tab_congr (fun i _ => by simp only [qN, hS00, Nat.div_zero, Int.natCast_zero, ite_self])
        have re : (tabI ws.length fun i => if i < k then (rN T S (natsL ws) i : Int) else 0) = (tabI ws.length fun i => if i < (k + 1) then (rN T S (natsL ws) i : Int) else 0) := tab_congr (fun i _ => by simp only [rN, hT0, Nat.zero_mul, Nat.zero_mod, Int.natCast_zero, ite_self])
        simp only [dk, map_getD hltk, hltk, intP, List.length_map, List.length_set, tab_len, o1, d3, pe, re, map_el b1, e1, w2, AW, reduceAdd, reduceCtorEq, reduceEqDiff, ↓reduceIte, reduceLT, reduceLeDiff, reduceSub, reducePow, reduceMul, reduceToNat, reduceLE, reduceEq, Int.reduceLT, Int.reduceBEq, Int.reduceBNe]
        (try simp only [wrap_succ hltk hlen, AW, reduceAdd, reduceCtorEq, reduceEqDiff, ↓reduceIte, reduceLT, reduceLeDiff, reduceSub, reducePow, reduceMul, reduceToNat, reduceLE, reduceEq, Int.reduceLT, Int.reduceBEq, Int.reduceBNe])
        refine ⟨k + 1, hltk, ?_, meas_lt hltk⟩
        simp only [LW, Nat.reduceMod, Nat.reduceDiv, AW, reduceAdd, reduceCtorEq, reduceEqDiff, ↓reduceIte, reduceLT, reduceLeDiff, reduceSub, reducePow, reduceMul, reduceToNat, reduceLE, reduceEq, Int.reduceLT, Int.reduceBEq, Int.reduceBNe]
  have dk : decide ((k : Int) < ((ws.length : Nat) : Int)) = true := by rw [decide_eq_true_eq]; exact Int.ofNat_lt.2 hltk
  have hb := List.all_eq_true.1 hall _ (List.getElem_mem hltk)
  have hb2 := inB_iff.1 hb
  have t3 : (decide ((0 : Int) ≤ ws[k]) && decide (ws[k] ≤ 1125899906842624)) = true := hb
  have hsum : (natsL (ws.take k)).sum ≤ 576460752303423488 := by
    have h1 := nats_sum_le (ws := ws.take k) (List.all_eq_true.2 (fun x hx => List.all_eq_true.1 hall x (List.mem_of_mem_take hx)))
    rw [List.length_take] at h1
    have h2 : min k ws.length ≤ 512 := by omega
    exact Nat.le_trans h1 (Nat.le_trans (Nat.mul_le_mul_right _ h2) (by decide))
  have w1 : IntKind.i64.wrap (((natsL (ws.take k)).sum : Int) + ws[k]) = (((natsL (ws.take (k + 1))).sum : Nat) : Int) := by
    rw [sum_take_succ hltk, wrap_id (by unfold I64; omega)]; omega
  simp only [dk, map_getD hltk, hltk, intP, AW, reduceAdd, reduceCtorEq, reduceEqDiff, ↓reduceIte, reduceLT, reduceLeDiff, reduceSub, reducePow, reduceMul, reduceToNat, reduceLE, reduceEq, Int.reduceLT, Int.reduceBEq, Int.reduceBNe]
  refine ops_call (in_g ws[k] 0 1125899906842624) (by simp only [intP, AW, reduceAdd, reduceCtorEq, reduceEqDiff, ↓reduceIte, reduceLT, reduceLeDiff, reduceSub, reducePow, reduceMul, reduceToNat, reduceLE, reduceEq, Int.reduceLT, Int.reduceBEq, Int.reduceBNe]) ?_; simp only [intP, AW, reduceAdd, reduceCtorEq, reduceEqDiff, ↓reduceIte, reduceLT, reduceLeDiff, reduceSub, reducePow, reduceMul, reduceToNat, reduceLE, reduceEq, Int.reduceLT, Int.reduceBEq, Int.reduceBNe]
  simp only [t3, w1, AW, reduceAdd, reduceCtorEq, reduceEqDiff, ↓reduceIte, reduceLT, reduceLeDiff, reduceSub, reducePow, reduceMul, reduceToNat, reduceLE, reduceEq, Int.reduceLT, Int.reduceBEq, Int.reduceBNe]
  (try simp only [wrap_succ hltk hlen, AW, reduceAdd, reduceCtorEq, reduceEqDiff, ↓reduceIte, reduceLT, reduceLeDiff, reduceSub, reducePow, reduceMul, reduceToNat, reduceLE, reduceEq, Int.reduceLT, Int.reduceBEq, Int.reduceBNe])
  refine ⟨k + 1, hltk, ?_, meas_lt hltk⟩
  simp only [LW, Nat.reduceMod, Nat.reduceDiv, AW, reduceAdd, reduceCtorEq, reduceEqDiff, ↓reduceIte, reduceLT, reduceLeDiff, reduceSub, reducePow, reduceMul, reduceToNat, reduceLE, reduceEq, Int.reduceLT, Int.reduceBEq, Int.reduceBNe]


end Go.Proofs.YtjlhnlfalomenaaDoor
