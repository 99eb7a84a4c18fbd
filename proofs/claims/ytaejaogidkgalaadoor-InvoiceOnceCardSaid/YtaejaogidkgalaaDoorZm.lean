/-
  Invoices: Lines of the reference.
-/
import Derived.Test.YtaejaogidkgalaaDoorZl
namespace Go.Proofs.YtaejaogidkgalaaDoor
open Go.RowKit
open Nat (reduceAdd reduceEqDiff reduceLT reduceLeDiff reduceSub reducePow reduceMul)
open Int (reduceToNat reduceLE reduceEq)
set_option linter.unusedVariables false
set_option linter.unusedSimpArgs false
set_option linter.unnecessarySimpa false

set_option maxRecDepth 20000 in
set_option maxHeartbeats 8000000 in
theorem rlines_g (x : InvS) : Good Tryd.prog 16 [x.pv] (linesP x) := by
  refine .fact (InvOk x) (fun M w vs hp => by obtain ⟨v, hv⟩ := hp.mem List.mem_cons_self; exact inv_rng hv) (fun ok => ?_)
  have gc := rcheckX_g x
  obtain ⟨ctInv, hctInv⟩ : ∃ l, l = tInv := ⟨_, rfl⟩
  have bctInv : (⟨#[105, 110, 118, 111, 105, 99, 101, 32]⟩ : ByteArray) = bA ctInv := by rw [hctInv]; rfl
  have lctInv : ctInv.length ≤ 10 := by rw [hctInv]; decide
  obtain ⟨ctRid, hctRid⟩ : ∃ l, l = tRid := ⟨_, rfl⟩
  have bctRid : (⟨#[32, 114, 105, 100, 101, 114, 32]⟩ : ByteArray) = bA ctRid := by rw [hctRid]; rfl
  have lctRid : ctRid.length ≤ 10 := by rw [hctRid]; decide
  obtain ⟨ctFrom, hctFrom⟩ : ∃ l, l = tFrom := ⟨_, rfl⟩
  have bctFrom : (⟨#[32, 102, 114, 111, 109, 32]⟩ : ByteArray) = bA ctFrom := by rw [hctFrom]; rfl
  have lctFrom : ctFrom.length ≤ 10 := by rw [hctFrom]; decide
  obtain ⟨ctTo, hctTo⟩ : ∃ l, l = tTo := ⟨_, rfl⟩
  have bctTo : (⟨#[32, 116, 111, 32]⟩ : ByteArray) = bA ctTo := by rw [hctTo]; rfl
  have lctTo : ctTo.length ≤ 10 := by rw [hctTo]; decide
  obtain ⟨ctRide, hctRide⟩ : ∃ l, l = tRide := ⟨_, rfl⟩
  have bctRide : (⟨#[114, 105, 100, 101, 32]⟩ : ByteArray) = bA ctRide := by rw [hctRide]; rfl
  have lctRide : ctRide.length ≤ 10 := by rw [hctRide]; decide
  obtain ⟨ctTot, hctTot⟩ : ∃ l, l = tTot := ⟨_, rfl⟩
  have bctTot : (⟨#[32, 116, 111, 116, 97, 108, 32]⟩ : ByteArray) = bA ctTot := by rw [hctTot]; rfl
  have lctTot : ctTot.length ≤ 10 := by rw [hctTot]; decide
  obtain ⟨ctItem, hctItem⟩ : ∃ l, l = tItem := ⟨_, rfl⟩
  have bctItem : (⟨#[105, 116, 101, 109, 32]⟩ : ByteArray) = bA ctItem := by rw [hctItem]; rfl
  have lctItem : ctItem.length ≤ 10 := by rw [hctItem]; decide
  obtain ⟨ctKind, hctKind⟩ : ∃ l, l = tKind := ⟨_, rfl⟩
  have bctKind : (⟨#[32, 107, 105, 110, 100, 32]⟩ : ByteArray) = bA ctKind := by rw [hctKind]; rfl
  have lctKind : ctKind.length ≤ 10 := by rw [hctKind]; decide
  obtain ⟨ctRef, hctRef⟩ : ∃ l, l = tRef := ⟨_, rfl⟩
  have bctRef : (⟨#[32, 114, 101, 102, 32]⟩ : ByteArray) = bA ctRef := by rw [hctRef]; rfl
  have lctRef : ctRef.length ≤ 10 := by rw [hctRef]; decide
  obtain ⟨ctAmt, hctAmt⟩ : ∃ l, l = tAmt := ⟨_, rfl⟩
  have bctAmt : (⟨#[32, 97, 109, 111, 117, 110, 116, 32]⟩ : ByteArray) = bA ctAmt := by rw [hctAmt]; rfl
  have lctAmt : ctAmt.length ≤ 10 := by rw [hctAmt]; decide
  obtain ⟨ctRefd, hctRefd⟩ : ∃ l, l = tRefd := ⟨_, rfl⟩
  have bctRefd : (⟨#[114, 101, 102, 117, 110, 100, 32]⟩ : ByteArray) = bA ctRefd := by rw [hctRefd]; rfl
  have lctRefd : ctRefd.length ≤ 10 := by rw [hctRefd]; decide
  obtain ⟨ctRide2, hctRide2⟩ : ∃ l, l = tRide2 := ⟨_, rfl⟩
  have bctRide2 : (⟨#[32, 114, 105, 100, 101, 32]⟩ : ByteArray) = bA ctRide2 := by rw [hctRide2]; rfl
  have lctRide2 : ctRide2.length ≤ 10 := by rw [hctRide2]; decide
  obtain ⟨ctItem2, hctItem2⟩ : ∃ l, l = tItem2 := ⟨_, rfl⟩
  have bctItem2 : (⟨#[32, 105, 116, 101, 109, 32]⟩ : ByteArray) = bA ctItem2 := by rw [hctItem2]; rfl
  have lctItem2 : ctItem2.length ≤ 10 := by rw [hctItem2]; decide
  obtain ⟨ctTot0, hctTot0⟩ : ∃ l, l = tTot0 := ⟨_, rfl⟩
  have bctTot0 : (⟨#[116, 111, 116, 97, 108, 32]⟩ : ByteArray) = bA ctTot0 := by rw [hctTot0]; rfl
  have lctTot0 : ctTot0.length ≤ 10 := by rw [hctTot0]; decide
  refine good16 (by simp) ?_
  simp only [ac16, InvS.pv, AW, reduceAdd, reduceCtorEq, reduceEqDiff, ↓reduceIte, reduceLT, reduceLeDiff, reduceSub, reducePow, reduceMul, reduceToNat, reduceLE, reduceEq, Int.reduceLT, Int.reduceBEq, Int.reduceBNe]
  simp only [InvS.pv, AW, reduceAdd, reduceCtorEq, reduceEqDiff, ↓reduceIte, reduceLT, reduceLeDiff, reduceSub, reducePow, reduceMul, reduceToNat, reduceLE, reduceEq, Int.reduceLT, Int.reduceBEq, Int.reduceBNe] at gc
  refine ops_call (gc) (by simp only [AW, reduceAdd, reduceCtorEq, reduceEqDiff, ↓reduceIte, reduceLT, reduceLeDiff, reduceSub, reducePow, reduceMul, reduceToNat, reduceLE, reduceEq, Int.reduceLT, Int.reduceBEq, Int.reduceBNe]) ?_; simp only [AW, reduceAdd, reduceCtorEq, reduceEqDiff, ↓reduceIte, reduceLT, reduceLeDiff, reduceSub, reducePow, reduceMul, reduceToNat, reduceLE, reduceEq, Int.reduceLT, Int.reduceBEq, Int.reduceBNe]
  cases hz : (checkX x != 0)
  rotate_left
  · have hne : checkX x ≠ 0 := by simpa using hz
    simp only [linesP, hne, intP, AW, reduceAdd, reduceCtorEq, reduceEqDiff, ↓reduceIte, reduceLT, reduceLeDiff, reduceSub, reducePow, reduceMul, reduceToNat, reduceLE, reduceEq, Int.reduceLT, Int.reduceBEq, Int.reduceBNe]
  have h0 : checkX x = 0 := by simpa using hz
  have hfin : linesP x = .tup [.sl ((linesX x).map txP), intP 0] := by unfold linesP; rw [if_neg (by rw [h0]; simp)]
  have ck := chk_ok h0
  have hc1 := ck.fl
  have hc2 := ck.rl
  have hlen : x.fares.length ≤ maxLen := by unfold maxLen; omega
  have hlenR : x.refunds.length ≤ maxLen := by unfold maxLen; omega
  have q1 := itoa_len ok.id
  have q2 := itoa_len ok.rider
  have q3 := itoa_len ok.from_
  have q4 := itoa_len ok.to_
  have s0 : ((ctInv.length + (Lib.itoa x.id).length : Nat) : Int) ≤ 9223372036854775807 := by omega
  have s1 : ((ctInv.length + (Lib.itoa x.id).length + ctRid.length : Nat) : Int) ≤ 9223372036854775807 := by omega
  have s2 : ((ctInv.length + (Lib.itoa x.id).length + ctRid.length + (Lib.itoa x.rider).length : Nat) : Int) ≤ 9223372036854775807 := by omega
  have s3 : ((ctInv.length + (Lib.itoa x.id).length + ctRid.length + (Lib.itoa x.rider).length + ctFrom.length : Nat) : Int) ≤ 9223372036854775807 := by omega
  have s4 : ((ctInv.length + (Lib.itoa x.id).length + ctRid.length + (Lib.itoa x.rider).length + ctFrom.length + (Lib.itoa x.when_.from_).length : Nat) : Int) ≤ 9223372036854775807 := by omega
  have s5 : ((ctInv.length + (Lib.itoa x.id).length + ctRid.length + (Lib.itoa x.rider).length + ctFrom.length + (Lib.itoa x.when_.from_).length + ctTo.length : Nat) : Int) ≤ 9223372036854775807 := by omega
  have s6 : ((ctInv.length + (Lib.itoa x.id).length + ctRid.length + (Lib.itoa x.rider).length + ctFrom.length + (Lib.itoa x.when_.from_).length + ctTo.length + (Lib.itoa x.when_.to_).length : Nat) : Int) ≤ 9223372036854775807 := by omega

  have g1 := number_g x.id
  have g2 := number_g x.rider
  have g3 := number_g x.when_.from_
  have g4 := number_g x.when_.to_
  have hH : lHead x = ctInv ++ Lib.itoa x.id ++ ctRid ++ Lib.itoa x.rider ++ ctFrom ++ Lib.itoa x.when_.from_ ++ ctTo ++ Lib.itoa x.when_.to_ := by
    unfold lHead; rw [hctInv, hctRid, hctFrom, hctTo]
  simp only [AW, reduceAdd, reduceCtorEq, reduceEqDiff, ↓reduceIte, reduceLT, reduceLeDiff, reduceSub, reducePow, reduceMul, reduceToNat, reduceLE, reduceEq, Int.reduceLT, Int.reduceBEq, Int.reduceBNe]
  refine ops_call (g1) (by simp only [intP, txP, bctInv, bctRid, bctFrom, bctTo, bctRide, bctTot, bctItem, bctKind, bctRef, bctAmt, bctRefd, bctRide2, bctItem2, bctTot0, AW, reduceAdd, reduceCtorEq, reduceEqDiff, ↓reduceIte, reduceLT, reduceLeDiff, reduceSub, reducePow, reduceMul, reduceToNat, reduceLE, reduceEq, Int.reduceLT, Int.reduceBEq, Int.reduceBNe]) ?_; simp only [intP, txP, bctInv, bctRid, bctFrom, bctTo, bctRide, bctTot, bctItem, bctKind, bctRef, bctAmt, bctRefd, bctRide2, bctItem2, bctTot0, AW, reduceAdd, reduceCtorEq, reduceEqDiff, ↓reduceIte, reduceLT, reduceLeDiff, reduceSub, reducePow, reduceMul, reduceToNat, reduceLE, reduceEq, Int.reduceLT, Int.reduceBEq, Int.reduceBNe]
  simp only [bA_size, bA_append, List.length_append, s0, s1, s2, s3, s4, s5, s6, AW, reduceAdd, reduceCtorEq, reduceEqDiff, ↓reduceIte, reduceLT, reduceLeDiff, reduceSub, reducePow, reduceMul, reduceToNat, reduceLE, reduceEq, Int.reduceLT, Int.reduceBEq, Int.reduceBNe]
  refine ops_call (g2) (by simp only [intP, txP, bctInv, bctRid, bctFrom, bctTo, bctRide, bctTot, bctItem, bctKind, bctRef, bctAmt, bctRefd, bctRide2, bctItem2, bctTot0, AW, reduceAdd, reduceCtorEq, reduceEqDiff, ↓reduceIte, reduceLT, reduceLeDiff, reduceSub, reducePow, reduceMul, reduceToNat, reduceLE, reduceEq, Int.reduceLT, Int.reduceBEq, Int.reduceBNe]) ?_; simp only [intP, txP, bctInv, bctRid, bctFrom, bctTo, bctRide, bctTot, bctItem, bctKind, bctRef, bctAmt, bctRefd, bctRide2, bctItem2, bctTot0, AW, reduceAdd, reduceCtorEq, reduceEqDiff, ↓reduceIte, reduceLT, reduceLeDiff, reduceSub, reducePow, reduceMul, reduceToNat, reduceLE, reduceEq, Int.reduceLT, Int.reduceBEq, Int.reduceBNe]
  simp only [bA_size, bA_append, List.length_append, s0, s1, s2, s3, s4, s5, s6, AW, reduceAdd, reduceCtorEq, reduceEqDiff, ↓reduceIte, reduceLT, reduceLeDiff, reduceSub, reducePow, reduceMul, reduceToNat, reduceLE, reduceEq, Int.reduceLT, Int.reduceBEq, Int.reduceBNe]
  refine ops_call (g3) (by simp only [intP, txP, bctInv, bctRid, bctFrom, bctTo, bctRide, bctTot, bctItem, bctKind, bctRef, bctAmt, bctRefd, bctRide2, bctItem2, bctTot0, AW, reduceAdd, reduceCtorEq, reduceEqDiff, ↓reduceIte, reduceLT, reduceLeDiff, reduceSub, reducePow, reduceMul, reduceToNat, reduceLE, reduceEq, Int.reduceLT, Int.reduceBEq, Int.reduceBNe]) ?_; simp only [intP, txP, bctInv, bctRid, bctFrom, bctTo, bctRide, bctTot, bctItem, bctKind, bctRef, bctAmt, bctRefd, bctRide2, bctItem2, bctTot0, AW, reduceAdd, reduceCtorEq, reduceEqDiff, ↓reduceIte, reduceLT, reduceLeDiff, reduceSub, reducePow, reduceMul, reduceToNat, reduceLE, reduceEq, Int.reduceLT, Int.reduceBEq, Int.reduceBNe]
  simp only [bA_size, bA_append, List.length_append, s0, s1, s2, s3, s4, s5, s6, AW, reduceAdd, reduceCtorEq, reduceEqDiff, ↓reduceIte, reduceLT, reduceLeDiff, reduceSub, reducePow, reduceMul, reduceToNat, reduceLE, reduceEq, Int.reduceLT, Int.reduceBEq, Int.reduceBNe]
  refine ops_call (g4) (by simp only [intP, txP, bctInv, bctRid, bctFrom, bctTo, bctRide, bctTot, bctItem, bctKind, bctRef, bctAmt, bctRefd, bctRide2, bctItem2, bctTot0, AW, reduceAdd, reduceCtorEq, reduceEqDiff, ↓reduceIte, reduceLT, reduceLeDiff, reduceSub, reducePow, reduceMul, reduceToNat, reduceLE, reduceEq, Int.reduceLT, Int.reduceBEq, Int.reduceBNe]) ?_; simp only [intP, txP, bctInv, bctRid, bctFrom, bctTo, bctRide, bctTot, bctItem, bctKind, bctRef, bctAmt, bctRefd, bctRide2, bctItem2, bctTot0, AW, reduceAdd, reduceCtorEq, reduceEqDiff, ↓reduceIte, reduceLT, reduceLeDiff, reduceSub, reducePow, reduceMul, reduceToNat, reduceLE, reduceEq, Int.reduceLT, Int.reduceBEq, Int.reduceBNe]
  simp only [bA_size, bA_append, List.length_append, s0, s1, s2, s3, s4, s5, s6, AW, reduceAdd, reduceCtorEq, reduceEqDiff, ↓reduceIte, reduceLT, reduceLeDiff, reduceSub, reducePow, reduceMul, reduceToNat, reduceLE, reduceEq, Int.reduceLT, Int.reduceBEq, Int.reduceBNe]
  refine drawnK rfl ?_
  (try simp only [AW, reduceAdd, reduceCtorEq, reduceEqDiff, ↓reduceIte, reduceLT, reduceLeDiff, reduceSub, reducePow, reduceMul, reduceToNat, reduceLE, reduceEq, Int.reduceLT, Int.reduceBEq, Int.reduceBNe])
  refine run_loop (ι := Nat) (fun k => ⟨[(1, .ptr 0 0), (5, .own 29 0), (6, .sc (.int .i64 (k : Int)))], [(0, .var [.sc (.int .i64 x.id), .sc (.int .i64 x.rider), .sc (.int .i64 x.when_.from_), .sc (.int .i64 x.when_.to_), .sl (x.fares.map FareS.pv), .sl (x.refunds.map RefS.pv), .sc (.int .i64 x.total)]), (29, .row 9 1 0 ((row1 x k).map txP))], 32, 137⟩) (fun k => k ≤ x.fares.length) (fun k => x.fares.length - k) 32 (fun _ => rfl) 0 (by simp only [LW, Nat.reduceMod, Nat.reduceDiv, Int.natCast_zero, row1_zero, List.map_cons, List.map_nil, txP, hH, AW, reduceAdd, reduceCtorEq, reduceEqDiff, ↓reduceIte, reduceLT, reduceLeDiff, reduceSub, reducePow, reduceMul, reduceToNat, reduceLE, reduceEq, Int.reduceLT, Int.reduceBEq, Int.reduceBNe]) (Nat.zero_le _) (fun k hk => ?_)
  have gk := hk
  by_cases hltk : k < x.fares.length
  rotate_left
  · have dk : decide ((k : Int) < ((x.fares.length : Nat) : Int)) = false := by rw [decide_eq_false_iff_not]; exact fun h => hltk (Int.ofNat_lt.1 h)
    have ek : k = x.fares.length := Nat.le_antisymm gk (Nat.le_of_not_lt hltk)
    subst ek
    simp only [dk, List.length_map, AW, reduceAdd, reduceCtorEq, reduceEqDiff, ↓reduceIte, reduceLT, reduceLeDiff, reduceSub, reducePow, reduceMul, reduceToNat, reduceLE, reduceEq, Int.reduceLT, Int.reduceBEq, Int.reduceBNe]
    refine run_loop (ι := Nat) (fun q => ⟨[(1, .ptr 0 0), (5, .own 29 0), (10, .sc (.int .i64 (q : Int)))], [(0, .var [.sc (.int .i64 x.id), .sc (.int .i64 x.rider), .sc (.int .i64 x.when_.from_), .sc (.int .i64 x.when_.to_), .sl (x.fares.map FareS.pv), .sl (x.refunds.map RefS.pv), .sc (.int .i64 x.total)]), (29, .row 9 1 0 ((row3 x q).map txP))], 38, 137⟩) (fun q => q ≤ x.refunds.length) (fun q => x.refunds.length - q) 38 (fun _ => rfl) 0 (by simp only [LW, Nat.reduceMod, Nat.reduceDiv, Int.natCast_zero, row3_zero, AW, reduceAdd, reduceCtorEq, reduceEqDiff, ↓reduceIte, reduceLT, reduceLeDiff, reduceSub, reducePow, reduceMul, reduceToNat, reduceLE, reduceEq, Int.reduceLT, Int.reduceBEq, Int.reduceBNe]) (Nat.zero_le _) (fun q hq => ?_)
    have gq := hq
    by_cases hltq : q < x.refunds.length
    rotate_left
    · have dq : decide ((q : Int) < ((x.refunds.length : Nat) : Int)) = false := by rw [decide_eq_false_iff_not]; exact fun h => hltq (Int.ofNat_lt.1 h)
      have eq : q = x.refunds.length := Nat.le_antisymm gq (Nat.le_of_not_lt hltq)
      subst eq
      have rl : (row3 x x.refunds.length).length ≤ 5000 := row3_len ck _
      have b1 := room1 rl
      have b2 := room2 rl
      rw [row3_end] at hfin
      have q1 := money_len (n := x.total) (by have := ck.tot; omega)
      have s0 : ((ctTot0.length + (moneyL x.total).length : Nat) : Int) ≤ 9223372036854775807 := by omega
      have g1 := money_g (n := x.total) (by have := ck.tot; omega)
      have hT : lTot x.total = ctTot0 ++ moneyL x.total := by unfold lTot; rw [hctTot0]
      simp only [dq, List.length_map, AW, reduceAdd, reduceCtorEq, reduceEqDiff, ↓reduceIte, reduceLT, reduceLeDiff, reduceSub, reducePow, reduceMul, reduceToNat, reduceLE, reduceEq, Int.reduceLT, Int.reduceBEq, Int.reduceBNe]
      refine ops_call (g1) (by simp only [intP, txP, bctInv, bctRid, bctFrom, bctTo, bctRide, bctTot, bctItem, bctKind, bctRef, bctAmt, bctRefd, bctRide2, bctItem2, bctTot0, AW, reduceAdd, reduceCtorEq, reduceEqDiff, ↓reduceIte, reduceLT, reduceLeDiff, reduceSub, reducePow, reduceMul, reduceToNat, reduceLE, reduceEq, Int.reduceLT, Int.reduceBEq, Int.reduceBNe]) ?_; simp only [intP, txP, bctInv, bctRid, bctFrom, bctTo, bctRide, bctTot, bctItem, bctKind, bctRef, bctAmt, bctRefd, bctRide2, bctItem2, bctTot0, AW, reduceAdd, reduceCtorEq, reduceEqDiff, ↓reduceIte, reduceLT, reduceLeDiff, reduceSub, reducePow, reduceMul, reduceToNat, reduceLE, reduceEq, Int.reduceLT, Int.reduceBEq, Int.reduceBNe]
      simp only [bA_size, bA_append, List.length_append, s0, List.length_map, b1, b2, AW, reduceAdd, reduceCtorEq, reduceEqDiff, ↓reduceIte, reduceLT, reduceLeDiff, reduceSub, reducePow, reduceMul, reduceToNat, reduceLE, reduceEq, Int.reduceLT, Int.reduceBEq, Int.reduceBNe]
      rw [hfin, hT]
      simp only [List.map_append, List.map_cons, List.map_nil, txP, intP, AW, reduceAdd, reduceCtorEq, reduceEqDiff, ↓reduceIte, reduceLT, reduceLeDiff, reduceSub, reducePow, reduceMul, reduceToNat, reduceLE, reduceEq, Int.reduceLT, Int.reduceBEq, Int.reduceBNe]
    have dq : decide ((q : Int) < ((x.refunds.length : Nat) : Int)) = true := by rw [decide_eq_true_eq]; exact Int.ofNat_lt.2 hltq
    have hy := List.getElem_mem hltq
    have qa := ck.amt _ hy
    have q1 := itoa_len (ok.rid _ hy)
    have q2 := itoa_len (ok.rride _ hy)
    have q3 := itoa_len (ok.ritem _ hy)
    have q4 := money_len (n := x.refunds[q].amount) (by omega)
    have s0 : ((ctRefd.length + (Lib.itoa x.refunds[q].id).length : Nat) : Int) ≤ 9223372036854775807 := by omega
    have s1 : ((ctRefd.length + (Lib.itoa x.refunds[q].id).length + ctRide2.length : Nat) : Int) ≤ 9223372036854775807 := by omega
    have s2 : ((ctRefd.length + (Lib.itoa x.refunds[q].id).length + ctRide2.length + (Lib.itoa x.refunds[q].ride).length : Nat) : Int) ≤ 9223372036854775807 := by omega
    have s3 : ((ctRefd.length + (Lib.itoa x.refunds[q].id).length + ctRide2.length + (Lib.itoa x.refunds[q].ride).length + ctItem2.length : Nat) : Int) ≤ 9223372036854775807 := by omega
    have s4 : ((ctRefd.length + (Lib.itoa x.refunds[q].id).length + ctRide2.length + (Lib.itoa x.refunds[q].ride).length + ctItem2.length + (Lib.itoa x.refunds[q].item).length : Nat) : Int) ≤ 9223372036854775807 := by omega
    have s5 : ((ctRefd.length + (Lib.itoa x.refunds[q].id).length + ctRide2.length + (Lib.itoa x.refunds[q].ride).length + ctItem2.length + (Lib.itoa x.refunds[q].item).length + ctAmt.length : Nat) : Int) ≤ 9223372036854775807 := by omega
    have s6 : ((ctRefd.length + (Lib.itoa x.refunds[q].id).length + ctRide2.length + (Lib.itoa x.refunds[q].ride).length + ctItem2.length + (Lib.itoa x.refunds[q].item).length + ctAmt.length + (moneyL x.refunds[q].amount).length : Nat) : Int) ≤ 9223372036854775807 := by omega
    have g1 := number_g x.refunds[q].id
    have g2 := number_g x.refunds[q].ride
    have g3 := number_g x.refunds[q].item
    have g4 := money_g (n := x.refunds[q].amount) (by omega)
    have es := row3_succ hltq
    have rl : (row3 x q).length ≤ 5000 := row3_len ck q
    have b1 := room1 rl
    have b2 := room2 rl
    have hR : lRef x.refunds[q] = ctRefd ++ Lib.itoa x.refunds[q].id ++ ctRide2 ++ Lib.itoa x.refunds[q].ride ++ ctItem2 ++ Lib.itoa x.refunds[q].item ++ ctAmt ++ moneyL x.refunds[q].amount := by
      unfold lRef; rw [hctRefd, hctRide2, hctItem2, hctAmt]
    simp only [dq, List.length_map, map_getD hltq, hltq, RefS.pv, RefS.vals, AW, reduceAdd, reduceCtorEq, reduceEqDiff, ↓reduceIte, reduceLT, reduceLeDiff, reduceSub, reducePow, reduceMul, reduceToNat, reduceLE, reduceEq, Int.reduceLT, Int.reduceBEq, Int.reduceBNe]
    refine ops_call (g1) (by simp only [intP, txP, bctInv, bctRid, bctFrom, bctTo, bctRide, bctTot, bctItem, bctKind, bctRef, bctAmt, bctRefd, bctRide2, bctItem2, bctTot0, AW, reduceAdd, reduceCtorEq, reduceEqDiff, ↓reduceIte, reduceLT, reduceLeDiff, reduceSub, reducePow, reduceMul, reduceToNat, reduceLE, reduceEq, Int.reduceLT, Int.reduceBEq, Int.reduceBNe]) ?_; simp only [intP, txP, bctInv, bctRid, bctFrom, bctTo, bctRide, bctTot, bctItem, bctKind, bctRef, bctAmt, bctRefd, bctRide2, bctItem2, bctTot0, AW, reduceAdd, reduceCtorEq, reduceEqDiff, ↓reduceIte, reduceLT, reduceLeDiff, reduceSub, reducePow, reduceMul, reduceToNat, reduceLE, reduceEq, Int.reduceLT, Int.reduceBEq, Int.reduceBNe]
    simp only [bA_size, bA_append, List.length_append, s0, s1, s2, s3, s4, s5, s6, AW, reduceAdd, reduceCtorEq, reduceEqDiff, ↓reduceIte, reduceLT, reduceLeDiff, reduceSub, reducePow, reduceMul, reduceToNat, reduceLE, reduceEq, Int.reduceLT, Int.reduceBEq, Int.reduceBNe]
    refine ops_call (g2) (by simp only [intP, txP, bctInv, bctRid, bctFrom, bctTo, bctRide, bctTot, bctItem, bctKind, bctRef, bctAmt, bctRefd, bctRide2, bctItem2, bctTot0, AW, reduceAdd, reduceCtorEq, reduceEqDiff, ↓reduceIte, reduceLT, reduceLeDiff, reduceSub, reducePow, reduceMul, reduceToNat, reduceLE, reduceEq, Int.reduceLT, Int.reduceBEq, Int.reduceBNe]) ?_; simp only [intP, txP, bctInv, bctRid, bctFrom, bctTo, bctRide, bctTot, bctItem, bctKind, bctRef, bctAmt, bctRefd, bctRide2, bctItem2, bctTot0, AW, reduceAdd, reduceCtorEq, reduceEqDiff, ↓reduceIte, reduceLT, reduceLeDiff, reduceSub, reducePow, reduceMul, reduceToNat, reduceLE, reduceEq, Int.reduceLT, Int.reduceBEq, Int.reduceBNe]
    simp only [bA_size, bA_append, List.length_append, s0, s1, s2, s3, s4, s5, s6, AW, reduceAdd, reduceCtorEq, reduceEqDiff, ↓reduceIte, reduceLT, reduceLeDiff, reduceSub, reducePow, reduceMul, reduceToNat, reduceLE, reduceEq, Int.reduceLT, Int.reduceBEq, Int.reduceBNe]
    refine ops_call (g3) (by simp only [intP, txP, bctInv, bctRid, bctFrom, bctTo, bctRide, bctTot, bctItem, bctKind, bctRef, bctAmt, bctRefd, bctRide2, bctItem2, bctTot0, AW, reduceAdd, reduceCtorEq, reduceEqDiff, ↓reduceIte, reduceLT, reduceLeDiff, reduceSub, reducePow, reduceMul, reduceToNat, reduceLE, reduceEq, Int.reduceLT, Int.reduceBEq, Int.reduceBNe]) ?_; simp only [intP, txP, bctInv, bctRid, bctFrom, bctTo, bctRide, bctTot, bctItem, bctKind, bctRef, bctAmt, bctRefd, bctRide2, bctItem2, bctTot0, AW, reduceAdd, reduceCtorEq, reduceEqDiff, ↓reduceIte, reduceLT, reduceLeDiff, reduceSub, reducePow, reduceMul, reduceToNat, reduceLE, reduceEq, Int.reduceLT, Int.reduceBEq, Int.reduceBNe]
    simp only [bA_size, bA_append, List.length_append, s0, s1, s2, s3, s4, s5, s6, AW, reduceAdd, reduceCtorEq, reduceEqDiff, ↓reduceIte, reduceLT, reduceLeDiff, reduceSub, reducePow, reduceMul, reduceToNat, reduceLE, reduceEq, Int.reduceLT, Int.reduceBEq, Int.reduceBNe]
    refine ops_call (g4) (by simp only [intP, txP, bctInv, bctRid, bctFrom, bctTo, bctRide, bctTot, bctItem, bctKind, bctRef, bctAmt, bctRefd, bctRide2, bctItem2, bctTot0, AW, reduceAdd, reduceCtorEq, reduceEqDiff, ↓reduceIte, reduceLT, reduceLeDiff, reduceSub, reducePow, reduceMul, reduceToNat, reduceLE, reduceEq, Int.reduceLT, Int.reduceBEq, Int.reduceBNe]) ?_; simp only [intP, txP, bctInv, bctRid, bctFrom, bctTo, bctRide, bctTot, bctItem, bctKind, bctRef, bctAmt, bctRefd, bctRide2, bctItem2, bctTot0, AW, reduceAdd, reduceCtorEq, reduceEqDiff, ↓reduceIte, reduceLT, reduceLeDiff, reduceSub, reducePow, reduceMul, reduceToNat, reduceLE, reduceEq, Int.reduceLT, Int.reduceBEq, Int.reduceBNe]
    simp only [bA_size, bA_append, List.length_append, s0, s1, s2, s3, s4, s5, s6, List.length_map, b1, b2, AW, reduceAdd, reduceCtorEq, reduceEqDiff, ↓reduceIte, reduceLT, reduceLeDiff, reduceSub, reducePow, reduceMul, reduceToNat, reduceLE, reduceEq, Int.reduceLT, Int.reduceBEq, Int.reduceBNe]
    refine drawnK rfl ?_
    (try simp only [wrap_succ hltq hlenR, AW, reduceAdd, reduceCtorEq, reduceEqDiff, ↓reduceIte, reduceLT, reduceLeDiff, reduceSub, reducePow, reduceMul, reduceToNat, reduceLE, reduceEq, Int.reduceLT, Int.reduceBEq, Int.reduceBNe])
    refine ⟨q + 1, hltq, ?_, meas_lt hltq⟩
    simp only [LW, Nat.reduceMod, Nat.reduceDiv, es, List.map_append, List.map_cons, List.map_nil, txP, hR, AW, reduceAdd, reduceCtorEq, reduceEqDiff, ↓reduceIte, reduceLT, reduceLeDiff, reduceSub, reducePow, reduceMul, reduceToNat, reduceLE, reduceEq, Int.reduceLT, Int.reduceBEq, Int.reduceBNe]
  have dk : decide ((k : Int) < ((x.fares.length : Nat) : Int)) = true := by rw [decide_eq_true_eq]; exact Int.ofNat_lt.2 hltk
  have hmem := List.getElem_mem hltk
  have ai := added_items (ck.add _ hmem)
  have hlenI : x.fares[k].items.length ≤ maxLen := by have := ai.1; unfold maxLen; omega
  have q1 := itoa_len (ok.ride _ hmem)
  have q2 := money_len (n := x.fares[k].total) (by omega)
  have s0 : ((ctRide.length + (Lib.itoa x.fares[k].ride).length : Nat) : Int) ≤ 9223372036854775807 := by omega
  have s1 : ((ctRide.length + (Lib.itoa x.fares[k].ride).length + ctTot.length : Nat) : Int) ≤ 9223372036854775807 := by omega
  have s2 : ((ctRide.length + (Lib.itoa x.fares[k].ride).length + ctTot.length + (moneyL x.fares[k].total).length : Nat) : Int) ≤ 9223372036854775807 := by omega
  have g1 := number_g x.fares[k].ride
  have g2 := money_g (n := x.fares[k].total) (by omega)
  have rl : (row1 x k).length ≤ 5000 := Nat.le_trans (row1_len ck k) (by decide)
  have b1 := room1 rl
  have b2 := room2 rl
  have hF : lFare x.fares[k] = ctRide ++ Lib.itoa x.fares[k].ride ++ ctTot ++ moneyL x.fares[k].total := by
    unfold lFare; rw [hctRide, hctTot]
  simp only [dk, List.length_map, map_getD hltk, hltk, FareS.pv, AW, reduceAdd, reduceCtorEq, reduceEqDiff, ↓reduceIte, reduceLT, reduceLeDiff, reduceSub, reducePow, reduceMul, reduceToNat, reduceLE, reduceEq, Int.reduceLT, Int.reduceBEq, Int.reduceBNe]
  refine ops_call (g1) (by simp only [intP, txP, bctInv, bctRid, bctFrom, bctTo, bctRide, bctTot, bctItem, bctKind, bctRef, bctAmt, bctRefd, bctRide2, bctItem2, bctTot0, AW, reduceAdd, reduceCtorEq, reduceEqDiff, ↓reduceIte, reduceLT, reduceLeDiff, reduceSub, reducePow, reduceMul, reduceToNat, reduceLE, reduceEq, Int.reduceLT, Int.reduceBEq, Int.reduceBNe]) ?_; simp only [intP, txP, bctInv, bctRid, bctFrom, bctTo, bctRide, bctTot, bctItem, bctKind, bctRef, bctAmt, bctRefd, bctRide2, bctItem2, bctTot0, AW, reduceAdd, reduceCtorEq, reduceEqDiff, ↓reduceIte, reduceLT, reduceLeDiff, reduceSub, reducePow, reduceMul, reduceToNat, reduceLE, reduceEq, Int.reduceLT, Int.reduceBEq, Int.reduceBNe]
  simp only [bA_size, bA_append, List.length_append, s0, s1, s2, AW, reduceAdd, reduceCtorEq, reduceEqDiff, ↓reduceIte, reduceLT, reduceLeDiff, reduceSub, reducePow, reduceMul, reduceToNat, reduceLE, reduceEq, Int.reduceLT, Int.reduceBEq, Int.reduceBNe]
  refine ops_call (g2) (by simp only [intP, txP, bctInv, bctRid, bctFrom, bctTo, bctRide, bctTot, bctItem, bctKind, bctRef, bctAmt, bctRefd, bctRide2, bctItem2, bctTot0, AW, reduceAdd, reduceCtorEq, reduceEqDiff, ↓reduceIte, reduceLT, reduceLeDiff, reduceSub, reducePow, reduceMul, reduceToNat, reduceLE, reduceEq, Int.reduceLT, Int.reduceBEq, Int.reduceBNe]) ?_; simp only [intP, txP, bctInv, bctRid, bctFrom, bctTo, bctRide, bctTot, bctItem, bctKind, bctRef, bctAmt, bctRefd, bctRide2, bctItem2, bctTot0, AW, reduceAdd, reduceCtorEq, reduceEqDiff, ↓reduceIte, reduceLT, reduceLeDiff, reduceSub, reducePow, reduceMul, reduceToNat, reduceLE, reduceEq, Int.reduceLT, Int.reduceBEq, Int.reduceBNe]
  simp only [bA_size, bA_append, List.length_append, s0, s1, s2, List.length_map, b1, b2, AW, reduceAdd, reduceCtorEq, reduceEqDiff, ↓reduceIte, reduceLT, reduceLeDiff, reduceSub, reducePow, reduceMul, reduceToNat, reduceLE, reduceEq, Int.reduceLT, Int.reduceBEq, Int.reduceBNe]
  refine drawnK rfl ?_
  (try simp only [List.length_map, AW, reduceAdd, reduceCtorEq, reduceEqDiff, ↓reduceIte, reduceLT, reduceLeDiff, reduceSub, reducePow, reduceMul, reduceToNat, reduceLE, reduceEq, Int.reduceLT, Int.reduceBEq, Int.reduceBNe])
  refine run_loop (ι := Nat) (fun m => ⟨[(1, .ptr 0 0), (5, .own 29 (vr m)), (6, .sc (.int .i64 (k : Int))), (7, .ptr 42 0), (8, .sc (.int .i64 (m : Int)))], [(0, .var [.sc (.int .i64 x.id), .sc (.int .i64 x.rider), .sc (.int .i64 x.when_.from_), .sc (.int .i64 x.when_.to_), .sl (x.fares.map FareS.pv), .sl (x.refunds.map RefS.pv), .sc (.int .i64 x.total)]), (29, .row 9 1 (vr m) ((row2 x k x.fares[k] m).map txP)), (42, .var [.sc (.int .i64 x.fares[k].ride), .sc (.int .i64 x.fares[k].rider), .sl (x.fares[k].items.map ItemS.pv), .sc (.int .i64 x.fares[k].total)]), (54, .row 9 1 0 [(.sc (.string (bA (ctRide ++ Lib.itoa x.fares[k].ride ++ ctTot ++ moneyL x.fares[k].total))))])], 58, 137⟩) (fun m => m ≤ x.fares[k].items.length) (fun m => x.fares[k].items.length - m) 58 (fun _ => rfl) 0 (by simp only [LW, Nat.reduceMod, Nat.reduceDiv, Int.natCast_zero, row2_zero, List.map_append, List.map_cons, List.map_nil, txP, hF, vr, AW, reduceAdd, reduceCtorEq, reduceEqDiff, ↓reduceIte, reduceLT, reduceLeDiff, reduceSub, reducePow, reduceMul, reduceToNat, reduceLE, reduceEq, Int.reduceLT, Int.reduceBEq, Int.reduceBNe]) (Nat.zero_le _) (fun m hm => ?_)
  have gm := hm
  by_cases hltm : m < x.fares[k].items.length
  rotate_left
  · have dm : decide ((m : Int) < ((x.fares[k].items.length : Nat) : Int)) = false := by rw [decide_eq_false_iff_not]; exact fun h => hltm (Int.ofNat_lt.1 h)
    have em : m = x.fares[k].items.length := Nat.le_antisymm gm (Nat.le_of_not_lt hltm)
    subst em
    have re := row2_end hltk
    simp only [dm, List.length_map, AW, reduceAdd, reduceCtorEq, reduceEqDiff, ↓reduceIte, reduceLT, reduceLeDiff, reduceSub, reducePow, reduceMul, reduceToNat, reduceLE, reduceEq, Int.reduceLT, Int.reduceBEq, Int.reduceBNe]
    (try simp only [wrap_succ hltk hlen, AW, reduceAdd, reduceCtorEq, reduceEqDiff, ↓reduceIte, reduceLT, reduceLeDiff, reduceSub, reducePow, reduceMul, reduceToNat, reduceLE, reduceEq, Int.reduceLT, Int.reduceBEq, Int.reduceBNe])
    refine ⟨k + 1, hltk, ?_, meas_lt hltk⟩
    simp only [LW, Nat.reduceMod, Nat.reduceDiv, re, AW, reduceAdd, reduceCtorEq, reduceEqDiff, ↓reduceIte, reduceLT, reduceLeDiff, reduceSub, reducePow, reduceMul, reduceToNat, reduceLE, reduceEq, Int.reduceLT, Int.reduceBEq, Int.reduceBNe]
  have dm : decide ((m : Int) < ((x.fares[k].items.length : Nat) : Int)) = true := by rw [decide_eq_true_eq]; exact Int.ofNat_lt.2 hltm
  have hy := List.getElem_mem hltm
  have q1 := itoa_len (ok.kind _ hmem _ hy)
  have q2 := itoa_len (ok.ref_ _ hmem _ hy)
  have qa := ai.2.1 _ hy
  have q3 := money_len (n := x.fares[k].items[m].amount) (by omega)
  have q4 := itoa_len (n := (m : Int)) ⟨by omega, by omega⟩
  have s0 : ((ctItem.length + (Lib.itoa (m : Int)).length : Nat) : Int) ≤ 9223372036854775807 := by omega
  have s1 : ((ctItem.length + (Lib.itoa (m : Int)).length + ctKind.length : Nat) : Int) ≤ 9223372036854775807 := by omega
  have s2 : ((ctItem.length + (Lib.itoa (m : Int)).length + ctKind.length + (Lib.itoa x.fares[k].items[m].kind).length : Nat) : Int) ≤ 9223372036854775807 := by omega
  have s3 : ((ctItem.length + (Lib.itoa (m : Int)).length + ctKind.length + (Lib.itoa x.fares[k].items[m].kind).length + ctRef.length : Nat) : Int) ≤ 9223372036854775807 := by omega
  have s4 : ((ctItem.length + (Lib.itoa (m : Int)).length + ctKind.length + (Lib.itoa x.fares[k].items[m].kind).length + ctRef.length + (Lib.itoa x.fares[k].items[m].ref_).length : Nat) : Int) ≤ 9223372036854775807 := by omega
  have s5 : ((ctItem.length + (Lib.itoa (m : Int)).length + ctKind.length + (Lib.itoa x.fares[k].items[m].kind).length + ctRef.length + (Lib.itoa x.fares[k].items[m].ref_).length + ctAmt.length : Nat) : Int) ≤ 9223372036854775807 := by omega
  have s6 : ((ctItem.length + (Lib.itoa (m : Int)).length + ctKind.length + (Lib.itoa x.fares[k].items[m].kind).length + ctRef.length + (Lib.itoa x.fares[k].items[m].ref_).length + ctAmt.length + (moneyL x.fares[k].items[m].amount).length : Nat) : Int) ≤ 9223372036854775807 := by omega
  have g1 := number_g (m : Int)
  have g2 := number_g x.fares[k].items[m].kind
  have g3 := number_g x.fares[k].items[m].ref_
  have g4 := money_g (n := x.fares[k].items[m].amount) (by omega)
  have es := row2_succ x k x.fares[k] hltm
  have rl2 : (row2 x k x.fares[k] m).length ≤ 5000 := Nat.le_trans (row2_len ck k ai.1 m) (by decide)
  have b3 := room1 rl2
  have b4 := room2 rl2
  have hI : lItem m x.fares[k].items[m] = ctItem ++ Lib.itoa (m : Int) ++ ctKind ++ Lib.itoa x.fares[k].items[m].kind ++ ctRef ++ Lib.itoa x.fares[k].items[m].ref_ ++ ctAmt ++ moneyL x.fares[k].items[m].amount := by
    unfold lItem; rw [hctItem, hctKind, hctRef, hctAmt]
  obtain ⟨v, hv⟩ : ∃ v, vr m = v := ⟨_, rfl⟩
  rw [hv]
  simp only [dm, List.length_map, map_getD hltm, hltm, ItemS.pv, ItemS.vals, AW, reduceAdd, reduceCtorEq, reduceEqDiff, ↓reduceIte, reduceLT, reduceLeDiff, reduceSub, reducePow, reduceMul, reduceToNat, reduceLE, reduceEq, Int.reduceLT, Int.reduceBEq, Int.reduceBNe]
  refine ops_call (g1) (by simp only [intP, txP, bctInv, bctRid, bctFrom, bctTo, bctRide, bctTot, bctItem, bctKind, bctRef, bctAmt, bctRefd, bctRide2, bctItem2, bctTot0, AW, reduceAdd, reduceCtorEq, reduceEqDiff, ↓reduceIte, reduceLT, reduceLeDiff, reduceSub, reducePow, reduceMul, reduceToNat, reduceLE, reduceEq, Int.reduceLT, Int.reduceBEq, Int.reduceBNe]) ?_; simp only [intP, txP, bctInv, bctRid, bctFrom, bctTo, bctRide, bctTot, bctItem, bctKind, bctRef, bctAmt, bctRefd, bctRide2, bctItem2, bctTot0, AW, reduceAdd, reduceCtorEq, reduceEqDiff, ↓reduceIte, reduceLT, reduceLeDiff, reduceSub, reducePow, reduceMul, reduceToNat, reduceLE, reduceEq, Int.reduceLT, Int.reduceBEq, Int.reduceBNe]
  simp only [bA_size, bA_append, List.length_append, s0, s1, s2, s3, s4, s5, s6, AW, reduceAdd, reduceCtorEq, reduceEqDiff, ↓reduceIte, reduceLT, reduceLeDiff, reduceSub, reducePow, reduceMul, reduceToNat, reduceLE, reduceEq, Int.reduceLT, Int.reduceBEq, Int.reduceBNe]
  refine ops_call (g2) (by simp only [intP, txP, bctInv, bctRid, bctFrom, bctTo, bctRide, bctTot, bctItem, bctKind, bctRef, bctAmt, bctRefd, bctRide2, bctItem2, bctTot0, AW, reduceAdd, reduceCtorEq, reduceEqDiff, ↓reduceIte, reduceLT, reduceLeDiff, reduceSub, reducePow, reduceMul, reduceToNat, reduceLE, reduceEq, Int.reduceLT, Int.reduceBEq, Int.reduceBNe]) ?_; simp only [intP, txP, bctInv, bctRid, bctFrom, bctTo, bctRide, bctTot, bctItem, bctKind, bctRef, bctAmt, bctRefd, bctRide2, bctItem2, bctTot0, AW, reduceAdd, reduceCtorEq, reduceEqDiff, ↓reduceIte, reduceLT, reduceLeDiff, reduceSub, reducePow, reduceMul, reduceToNat, reduceLE, reduceEq, Int.reduceLT, Int.reduceBEq, Int.reduceBNe]
  simp only [bA_size, bA_append, List.length_append, s0, s1, s2, s3, s4, s5, s6, AW, reduceAdd, reduceCtorEq, reduceEqDiff, ↓reduceIte, reduceLT, reduceLeDiff, reduceSub, reducePow, reduceMul, reduceToNat, reduceLE, reduceEq, Int.reduceLT, Int.reduceBEq, Int.reduceBNe]
  refine ops_call (g3) (by simp only [intP, txP, bctInv, bctRid, bctFrom, bctTo, bctRide, bctTot, bctItem, bctKind, bctRef, bctAmt, bctRefd, bctRide2, bctItem2, bctTot0, AW, reduceAdd, reduceCtorEq, reduceEqDiff, ↓reduceIte, reduceLT, reduceLeDiff, reduceSub, reducePow, reduceMul, reduceToNat, reduceLE, reduceEq, Int.reduceLT, Int.reduceBEq, Int.reduceBNe]) ?_; simp only [intP, txP, bctInv, bctRid, bctFrom, bctTo, bctRide, bctTot, bctItem, bctKind, bctRef, bctAmt, bctRefd, bctRide2, bctItem2, bctTot0, AW, reduceAdd, reduceCtorEq, reduceEqDiff, ↓reduceIte, reduceLT, reduceLeDiff, reduceSub, reducePow, reduceMul, reduceToNat, reduceLE, reduceEq, Int.reduceLT, Int.reduceBEq, Int.reduceBNe]
  simp only [bA_size, bA_append, List.length_append, s0, s1, s2, s3, s4, s5, s6, AW, reduceAdd, reduceCtorEq, reduceEqDiff, ↓reduceIte, reduceLT, reduceLeDiff, reduceSub, reducePow, reduceMul, reduceToNat, reduceLE, reduceEq, Int.reduceLT, Int.reduceBEq, Int.reduceBNe]
  refine ops_call (g4) (by simp only [intP, txP, bctInv, bctRid, bctFrom, bctTo, bctRide, bctTot, bctItem, bctKind, bctRef, bctAmt, bctRefd, bctRide2, bctItem2, bctTot0, AW, reduceAdd, reduceCtorEq, reduceEqDiff, ↓reduceIte, reduceLT, reduceLeDiff, reduceSub, reducePow, reduceMul, reduceToNat, reduceLE, reduceEq, Int.reduceLT, Int.reduceBEq, Int.reduceBNe]) ?_; simp only [intP, txP, bctInv, bctRid, bctFrom, bctTo, bctRide, bctTot, bctItem, bctKind, bctRef, bctAmt, bctRefd, bctRide2, bctItem2, bctTot0, AW, reduceAdd, reduceCtorEq, reduceEqDiff, ↓reduceIte, reduceLT, reduceLeDiff, reduceSub, reducePow, reduceMul, reduceToNat, reduceLE, reduceEq, Int.reduceLT, Int.reduceBEq, Int.reduceBNe]
  simp only [bA_size, bA_append, List.length_append, s0, s1, s2, s3, s4, s5, s6, List.length_map, b3, b4, AW, reduceAdd, reduceCtorEq, reduceEqDiff, ↓reduceIte, reduceLT, reduceLeDiff, reduceSub, reducePow, reduceMul, reduceToNat, reduceLE, reduceEq, Int.reduceLT, Int.reduceBEq, Int.reduceBNe]
  refine drawnK rfl ?_
  (try simp only [wrap_succ hltm hlenI, AW, reduceAdd, reduceCtorEq, reduceEqDiff, ↓reduceIte, reduceLT, reduceLeDiff, reduceSub, reducePow, reduceMul, reduceToNat, reduceLE, reduceEq, Int.reduceLT, Int.reduceBEq, Int.reduceBNe])
  refine ⟨m + 1, hltm, ?_, meas_lt hltm⟩
  simp only [LW, Nat.reduceMod, Nat.reduceDiv, es, List.map_append, List.map_cons, List.map_nil, txP, hI, vr, AW, reduceAdd, reduceCtorEq, reduceEqDiff, ↓reduceIte, reduceLT, reduceLeDiff, reduceSub, reducePow, reduceMul, reduceToNat, reduceLE, reduceEq, Int.reduceLT, Int.reduceBEq, Int.reduceBNe]


end Go.Proofs.YtaejaogidkgalaaDoor
