/-
  Invoices: the laws of good invoices and of nets.
-/
import Derived.Test.YtaejaogidkgalaaDoorZq
import Derived.Test.YtaejaogidkgalaaDoorZr
namespace Go.Proofs.YtaejaogidkgalaaDoor
open Go.RowKit
open Nat (reduceAdd reduceEqDiff reduceLT reduceLeDiff reduceSub reducePow reduceMul)
open Int (reduceToNat reduceLE reduceEq)
set_option linter.unusedVariables false
set_option linter.unusedSimpArgs false
set_option linter.unnecessarySimpa false

theorem made_cases (c : CaseS) (w : WinS) : (∃ e, e ≠ 0 ∧ madeX c w = (zeroX, e)) ∨ (MakeOk c.id c.rider w c.rides c.fares c.refunds ∧ madeX c w = (⟨c.id, c.rider, w, mineF c.rides c.rider w c.fares, refsF (mineF c.rides c.rider w c.fares) c.refunds, totF (mineF c.rides c.rider w c.fares) - amtR (refsF (mineF c.rides c.rider w c.fares) c.refunds)⟩, 0)) := by
  unfold madeX
  by_cases h : (makeX c.id c.rider w c.rides c.fares c.refunds).2 = 0
  · have ho := make_ok h
    exact .inr ⟨ho, make_eq ho⟩
  · have hn := make_not h
    exact .inl ⟨_, h, by rw [← hn]⟩
def itemsN (l : List FareS) : Nat := (l.map (fun f => f.items.length)).sum
theorem itemsN_succ {l : List FareS} {k : Nat} (h : k < l.length) : itemsN (l.take (k + 1)) = itemsN (l.take k) + l[k].items.length := by
  unfold itemsN; rw [List.take_succ_eq_append_getElem h, List.map_append, List.sum_append]; simp
theorem itemsN_le {l : List FareS} (h : ∀ f ∈ l, f.items.length ≤ 1000) : itemsN l ≤ 1000 * l.length := by
  induction l with
  | nil => simp [itemsN]
  | cons f l ih =>
    have ih := ih (fun g hg => h g (List.mem_cons_of_mem _ hg))
    have hf := h f List.mem_cons_self
    unfold itemsN at *
    rw [List.map_cons, List.sum_cons, List.length_cons]; omega
theorem linesF_length (l : List FareS) : (linesF l).length = l.length + itemsN l := by
  induction l with
  | nil => rfl
  | cons f l ih =>
    unfold linesF itemsN at *
    rw [List.flatMap_cons, List.length_append, List.length_cons, linesI_len, ih, List.length_cons, List.map_cons, List.sum_cons]; omega
theorem linesX_length (x : InvS) : (linesX x).length = 2 + x.fares.length + x.refunds.length + itemsN x.fares := by
  unfold linesX
  simp only [List.length_append, List.length_cons, List.length_nil, List.length_map, linesF_length]; omega
set_option maxHeartbeats 4000000 in
theorem invoiceGood_good (c : CaseS) : Good Tryd.prog 6 [c.pv] (.sc (.bool true)) := by
  have ga := awake_g
  have gf := few_g c
  have gp := proper_g c.fares
  refine good6 (by simp) ?_
  simp only [CaseS.pv, AW, reduceAdd, reduceCtorEq, reduceEqDiff, ↓reduceIte, reduceLT, reduceLeDiff, reduceSub, reducePow, reduceMul, reduceToNat, reduceLE, reduceEq, Int.reduceLT, Int.reduceBEq, Int.reduceBNe] at gf
  simp only [ac6, CaseS.pv, AW, reduceAdd, reduceCtorEq, reduceEqDiff, ↓reduceIte, reduceLT, reduceLeDiff, reduceSub, reducePow, reduceMul, reduceToNat, reduceLE, reduceEq, Int.reduceLT, Int.reduceBEq, Int.reduceBNe]
  refine ops_call (gf) (by simp only [AW, reduceAdd, reduceCtorEq, reduceEqDiff, ↓reduceIte, reduceLT, reduceLeDiff, reduceSub, reducePow, reduceMul, reduceToNat, reduceLE, reduceEq, Int.reduceLT, Int.reduceBEq, Int.reduceBNe]) ?_; simp only [AW, reduceAdd, reduceCtorEq, reduceEqDiff, ↓reduceIte, reduceLT, reduceLeDiff, reduceSub, reducePow, reduceMul, reduceToNat, reduceLE, reduceEq, Int.reduceLT, Int.reduceBEq, Int.reduceBNe]
  cases hf : fewC c
  · simp only [AW, reduceAdd, reduceCtorEq, reduceEqDiff, ↓reduceIte, reduceLT, reduceLeDiff, reduceSub, reducePow, reduceMul, reduceToNat, reduceLE, reduceEq, Int.reduceLT, Int.reduceBEq, Int.reduceBNe]
    refine ops_call (ga) rfl ?_; simp only [AW, reduceAdd, reduceCtorEq, reduceEqDiff, ↓reduceIte, reduceLT, reduceLeDiff, reduceSub, reducePow, reduceMul, reduceToNat, reduceLE, reduceEq, Int.reduceLT, Int.reduceBEq, Int.reduceBNe]
  simp only [AW, reduceAdd, reduceCtorEq, reduceEqDiff, ↓reduceIte, reduceLT, reduceLeDiff, reduceSub, reducePow, reduceMul, reduceToNat, reduceLE, reduceEq, Int.reduceLT, Int.reduceBEq, Int.reduceBNe]
  refine ops_call (gp) (by simp only [AW, reduceAdd, reduceCtorEq, reduceEqDiff, ↓reduceIte, reduceLT, reduceLeDiff, reduceSub, reducePow, reduceMul, reduceToNat, reduceLE, reduceEq, Int.reduceLT, Int.reduceBEq, Int.reduceBNe]) ?_; simp only [AW, reduceAdd, reduceCtorEq, reduceEqDiff, ↓reduceIte, reduceLT, reduceLeDiff, reduceSub, reducePow, reduceMul, reduceToNat, reduceLE, reduceEq, Int.reduceLT, Int.reduceBEq, Int.reduceBNe]
  cases hp : properB c.fares
  · simp only [AW, reduceAdd, reduceCtorEq, reduceEqDiff, ↓reduceIte, reduceLT, reduceLeDiff, reduceSub, reducePow, reduceMul, reduceToNat, reduceLE, reduceEq, Int.reduceLT, Int.reduceBEq, Int.reduceBNe]
    refine ops_call (ga) rfl ?_; simp only [AW, reduceAdd, reduceCtorEq, reduceEqDiff, ↓reduceIte, reduceLT, reduceLeDiff, reduceSub, reducePow, reduceMul, reduceToNat, reduceLE, reduceEq, Int.reduceLT, Int.reduceBEq, Int.reduceBNe]
  obtain ⟨hR, hI, h3, h4⟩ := fewC_iff hf
  have hI2 : ∀ f ∈ c.fares, f.items.length ≤ 1000 := fun f h => Nat.le_trans (hI f h) (by decide)
  have g1 := made_g c c.when_ hR hI2
  rcases made_cases c c.when_ with ⟨e, he, hm⟩ | ⟨ho, hm⟩
  · rw [hm] at g1
    simp only [makeP, zeroX, intP, InvS.pv, WinS.pv, WinS.vals, List.map_cons, List.map_nil, CaseS.pv, AW, reduceAdd, reduceCtorEq, reduceEqDiff, ↓reduceIte, reduceLT, reduceLeDiff, reduceSub, reducePow, reduceMul, reduceToNat, reduceLE, reduceEq, Int.reduceLT, Int.reduceBEq, Int.reduceBNe] at g1
    have he2 : (e != 0) = true := by simpa using he
    simp only [AW, reduceAdd, reduceCtorEq, reduceEqDiff, ↓reduceIte, reduceLT, reduceLeDiff, reduceSub, reducePow, reduceMul, reduceToNat, reduceLE, reduceEq, Int.reduceLT, Int.reduceBEq, Int.reduceBNe]
    refine ops_call (g1) (by simp only [AW, reduceAdd, reduceCtorEq, reduceEqDiff, ↓reduceIte, reduceLT, reduceLeDiff, reduceSub, reducePow, reduceMul, reduceToNat, reduceLE, reduceEq, Int.reduceLT, Int.reduceBEq, Int.reduceBNe]) ?_; simp only [AW, reduceAdd, reduceCtorEq, reduceEqDiff, ↓reduceIte, reduceLT, reduceLeDiff, reduceSub, reducePow, reduceMul, reduceToNat, reduceLE, reduceEq, Int.reduceLT, Int.reduceBEq, Int.reduceBNe]
    simp only [he2, AW, reduceAdd, reduceCtorEq, reduceEqDiff, ↓reduceIte, reduceLT, reduceLeDiff, reduceSub, reducePow, reduceMul, reduceToNat, reduceLE, reduceEq, Int.reduceLT, Int.reduceBEq, Int.reduceBNe]
    refine ops_call (ga) rfl ?_; simp only [AW, reduceAdd, reduceCtorEq, reduceEqDiff, ↓reduceIte, reduceLT, reduceLeDiff, reduceSub, reducePow, reduceMul, reduceToNat, reduceLE, reduceEq, Int.reduceLT, Int.reduceBEq, Int.reduceBNe]
  have hck : checkX (madeX c c.when_).1 = 0 := good_chk hp ho
  have hfl : (mineF c.rides c.rider c.when_ c.fares).length ≤ c.fares.length := List.length_filter_le _ _
  have hit : ∀ f ∈ mineF c.rides c.rider c.when_ c.fares, f.items.length ≤ 1000 := fun f h => hI2 f (List.mem_filter.1 h).1
  rw [hm] at g1 hck
  obtain ⟨x, hx⟩ : ∃ x, InvS.mk c.id c.rider c.when_ (mineF c.rides c.rider c.when_ c.fares) (refsF (mineF c.rides c.rider c.when_ c.fares) c.refunds) (totF (mineF c.rides c.rider c.when_ c.fares) - amtR (refsF (mineF c.rides c.rider c.when_ c.fares) c.refunds)) = x := ⟨_, rfl⟩
  have hxf : x.fares = mineF c.rides c.rider c.when_ c.fares := by rw [← hx]
  rw [← hxf] at hfl hit
  rw [hx] at g1 hck
  have hck : checkX x = 0 := hck
  have ck := chk_ok hck
  have hrl := ck.rl
  have g2 := lines_g x
  have g3 := icheck_g x
  rw [show linesP x = .tup [.sl ((linesX x).map txP), intP 0] by unfold linesP; rw [if_neg (by rw [hck]; simp)]] at g2
  rw [hck] at g3
  have hn := itemsN_le hit
  have hL := linesX_length x
  simp only [makeP, intP, InvS.pv, WinS.pv, WinS.vals, List.map_cons, List.map_nil, CaseS.pv, AW, reduceAdd, reduceCtorEq, reduceEqDiff, ↓reduceIte, reduceLT, reduceLeDiff, reduceSub, reducePow, reduceMul, reduceToNat, reduceLE, reduceEq, Int.reduceLT, Int.reduceBEq, Int.reduceBNe] at g1
  simp only [intP, InvS.pv, AW, reduceAdd, reduceCtorEq, reduceEqDiff, ↓reduceIte, reduceLT, reduceLeDiff, reduceSub, reducePow, reduceMul, reduceToNat, reduceLE, reduceEq, Int.reduceLT, Int.reduceBEq, Int.reduceBNe] at g2
  simp only [InvS.pv, AW, reduceAdd, reduceCtorEq, reduceEqDiff, ↓reduceIte, reduceLT, reduceLeDiff, reduceSub, reducePow, reduceMul, reduceToNat, reduceLE, reduceEq, Int.reduceLT, Int.reduceBEq, Int.reduceBNe] at g3
  have w1 : IntKind.i64.wrap (2 + (x.fares.length : Int)) = ((2 + x.fares.length : Nat) : Int) := by rw [wrap_id ⟨by omega, by omega⟩]; omega
  have w2 : IntKind.i64.wrap (((2 + x.fares.length : Nat) : Int) + (x.refunds.length : Int)) = ((2 + x.fares.length + x.refunds.length : Nat) : Int) := by rw [wrap_id ⟨by omega, by omega⟩]; omega
  have hlen : x.fares.length ≤ maxLen := by unfold maxLen; omega
  simp only [AW, reduceAdd, reduceCtorEq, reduceEqDiff, ↓reduceIte, reduceLT, reduceLeDiff, reduceSub, reducePow, reduceMul, reduceToNat, reduceLE, reduceEq, Int.reduceLT, Int.reduceBEq, Int.reduceBNe]
  refine ops_call (g1) (by simp only [AW, reduceAdd, reduceCtorEq, reduceEqDiff, ↓reduceIte, reduceLT, reduceLeDiff, reduceSub, reducePow, reduceMul, reduceToNat, reduceLE, reduceEq, Int.reduceLT, Int.reduceBEq, Int.reduceBNe]) ?_; simp only [AW, reduceAdd, reduceCtorEq, reduceEqDiff, ↓reduceIte, reduceLT, reduceLeDiff, reduceSub, reducePow, reduceMul, reduceToNat, reduceLE, reduceEq, Int.reduceLT, Int.reduceBEq, Int.reduceBNe]
  refine ops_call (g2) (by simp only [AW, reduceAdd, reduceCtorEq, reduceEqDiff, ↓reduceIte, reduceLT, reduceLeDiff, reduceSub, reducePow, reduceMul, reduceToNat, reduceLE, reduceEq, Int.reduceLT, Int.reduceBEq, Int.reduceBNe]) ?_; simp only [AW, reduceAdd, reduceCtorEq, reduceEqDiff, ↓reduceIte, reduceLT, reduceLeDiff, reduceSub, reducePow, reduceMul, reduceToNat, reduceLE, reduceEq, Int.reduceLT, Int.reduceBEq, Int.reduceBNe]
  simp only [List.length_map, w1, w2, AW, reduceAdd, reduceCtorEq, reduceEqDiff, ↓reduceIte, reduceLT, reduceLeDiff, reduceSub, reducePow, reduceMul, reduceToNat, reduceLE, reduceEq, Int.reduceLT, Int.reduceBEq, Int.reduceBNe]
  refine run_loop (ι := Nat) (fun k => ⟨[(3, .ptr 18 0), (5, .sl ((linesX x).map txP)), (6, .sc (.int .i64 0)), (7, .sc (.int .i64 ((2 + x.fares.length + x.refunds.length + itemsN (x.fares.take k) : Nat) : Int))), (8, .sc (.int .i64 (k : Int)))], [(0, .var [.sc (.int .i64 c.id), .sc (.int .i64 c.rider), .sc (.int .i64 c.when_.from_), .sc (.int .i64 c.when_.to_), .sl (c.rides.map RideS.pv), .sl (c.fares.map FareS.pv), .sl (c.refunds.map RefS.pv)]), (18, .var [.sc (.int .i64 x.id), .sc (.int .i64 x.rider), .sc (.int .i64 x.when_.from_), .sc (.int .i64 x.when_.to_), .sl (x.fares.map FareS.pv), .sl (x.refunds.map RefS.pv), .sc (.int .i64 x.total)])], 40, 74⟩) (fun k => k ≤ x.fares.length) (fun k => x.fares.length - k) 40 (fun _ => rfl) 0 (by simp only [LW, Nat.reduceMod, Nat.reduceDiv, Int.natCast_zero, List.take_zero, itemsN, List.map_nil, List.sum_nil, Nat.add_zero, AW, reduceAdd, reduceCtorEq, reduceEqDiff, ↓reduceIte, reduceLT, reduceLeDiff, reduceSub, reducePow, reduceMul, reduceToNat, reduceLE, reduceEq, Int.reduceLT, Int.reduceBEq, Int.reduceBNe]) (Nat.zero_le _) (fun k hk => ?_)
  have gk := hk
  by_cases hltk : k < x.fares.length
  rotate_left
  · have dk : decide ((k : Int) < ((x.fares.length : Nat) : Int)) = false := by rw [decide_eq_false_iff_not]; exact fun h => hltk (Int.ofNat_lt.1 h)
    have ek : k = x.fares.length := Nat.le_antisymm gk (Nat.le_of_not_lt hltk)
    subst ek
    rw [List.take_length]
    have hq : (((linesX x).length : Int) == ((2 + x.fares.length + x.refunds.length + itemsN x.fares : Nat) : Int)) = true := by rw [hL]; exact beq_self_eq_true _
    simp only [dk, List.length_map, AW, reduceAdd, reduceCtorEq, reduceEqDiff, ↓reduceIte, reduceLT, reduceLeDiff, reduceSub, reducePow, reduceMul, reduceToNat, reduceLE, reduceEq, Int.reduceLT, Int.reduceBEq, Int.reduceBNe]
    refine ops_call (g3) (by simp only [AW, reduceAdd, reduceCtorEq, reduceEqDiff, ↓reduceIte, reduceLT, reduceLeDiff, reduceSub, reducePow, reduceMul, reduceToNat, reduceLE, reduceEq, Int.reduceLT, Int.reduceBEq, Int.reduceBNe]) ?_; simp only [AW, reduceAdd, reduceCtorEq, reduceEqDiff, ↓reduceIte, reduceLT, reduceLeDiff, reduceSub, reducePow, reduceMul, reduceToNat, reduceLE, reduceEq, Int.reduceLT, Int.reduceBEq, Int.reduceBNe]
    simp only [List.length_map, hq, AW, reduceAdd, reduceCtorEq, reduceEqDiff, ↓reduceIte, reduceLT, reduceLeDiff, reduceSub, reducePow, reduceMul, reduceToNat, reduceLE, reduceEq, Int.reduceLT, Int.reduceBEq, Int.reduceBNe]
    refine ops_call (ga) rfl ?_; simp only [AW, reduceAdd, reduceCtorEq, reduceEqDiff, ↓reduceIte, reduceLT, reduceLeDiff, reduceSub, reducePow, reduceMul, reduceToNat, reduceLE, reduceEq, Int.reduceLT, Int.reduceBEq, Int.reduceBNe]
  have dk : decide ((k : Int) < ((x.fares.length : Nat) : Int)) = true := by rw [decide_eq_true_eq]; exact Int.ofNat_lt.2 hltk
  have hmem := List.getElem_mem hltk
  have hk := hit _ hmem
  have es := itemsN_succ hltk
  have hn2 := itemsN_le (l := x.fares.take k) (fun f h => hit f (List.mem_of_mem_take h))
  rw [List.length_take] at hn2
  have w3 : IntKind.i64.wrap (((2 + x.fares.length + x.refunds.length + itemsN (x.fares.take k) : Nat) : Int) + (x.fares[k].items.length : Int)) = ((2 + x.fares.length + x.refunds.length + itemsN (x.fares.take (k + 1)) : Nat) : Int) := by rw [es, wrap_id ⟨by omega, by omega⟩]; omega
  simp only [dk, List.length_map, map_getD hltk, hltk, FareS.pv, w3, AW, reduceAdd, reduceCtorEq, reduceEqDiff, ↓reduceIte, reduceLT, reduceLeDiff, reduceSub, reducePow, reduceMul, reduceToNat, reduceLE, reduceEq, Int.reduceLT, Int.reduceBEq, Int.reduceBNe]
  (try simp only [wrap_succ hltk hlen, AW, reduceAdd, reduceCtorEq, reduceEqDiff, ↓reduceIte, reduceLT, reduceLeDiff, reduceSub, reducePow, reduceMul, reduceToNat, reduceLE, reduceEq, Int.reduceLT, Int.reduceBEq, Int.reduceBNe])
  refine ⟨k + 1, hltk, ?_, meas_lt hltk⟩
  simp only [LW, Nat.reduceMod, Nat.reduceDiv, AW, reduceAdd, reduceCtorEq, reduceEqDiff, ↓reduceIte, reduceLT, reduceLeDiff, reduceSub, reducePow, reduceMul, reduceToNat, reduceLE, reduceEq, Int.reduceLT, Int.reduceBEq, Int.reduceBNe]
theorem netS_bnd {l : List RefS} (hl : l.length ≤ 100) (ha : amtOk l) {m : List FareS} (hm : ∀ f ∈ m, addedB f = true) : -(200000000000000 * m.length : Int) ≤ netS l m ∧ netS l m ≤ 200000000000000 * m.length := by
  induction m with
  | nil => simp [netS]
  | cons f m ih =>
    have ih := ih (fun g hg => hm g (List.mem_cons_of_mem _ hg))
    have hf := added_bnd (hm f List.mem_cons_self)
    have hs := sR_bnd ha f.ride
    unfold netS at *
    rw [List.map_cons, List.sum_cons, List.length_cons]; omega
set_option maxHeartbeats 4000000 in
theorem invoiceNets_good (c : CaseS) : Good Tryd.prog 8 [c.pv] (.sc (.bool true)) := by
  have ga := awake_g
  have gf := few_g c
  have gp := proper_g c.fares
  refine good8 (by simp) ?_
  simp only [CaseS.pv, AW, reduceAdd, reduceCtorEq, reduceEqDiff, ↓reduceIte, reduceLT, reduceLeDiff, reduceSub, reducePow, reduceMul, reduceToNat, reduceLE, reduceEq, Int.reduceLT, Int.reduceBEq, Int.reduceBNe] at gf
  simp only [ac8, CaseS.pv, AW, reduceAdd, reduceCtorEq, reduceEqDiff, ↓reduceIte, reduceLT, reduceLeDiff, reduceSub, reducePow, reduceMul, reduceToNat, reduceLE, reduceEq, Int.reduceLT, Int.reduceBEq, Int.reduceBNe]
  refine ops_call (gf) (by simp only [AW, reduceAdd, reduceCtorEq, reduceEqDiff, ↓reduceIte, reduceLT, reduceLeDiff, reduceSub, reducePow, reduceMul, reduceToNat, reduceLE, reduceEq, Int.reduceLT, Int.reduceBEq, Int.reduceBNe]) ?_; simp only [AW, reduceAdd, reduceCtorEq, reduceEqDiff, ↓reduceIte, reduceLT, reduceLeDiff, reduceSub, reducePow, reduceMul, reduceToNat, reduceLE, reduceEq, Int.reduceLT, Int.reduceBEq, Int.reduceBNe]
  cases hf : fewC c
  · simp only [AW, reduceAdd, reduceCtorEq, reduceEqDiff, ↓reduceIte, reduceLT, reduceLeDiff, reduceSub, reducePow, reduceMul, reduceToNat, reduceLE, reduceEq, Int.reduceLT, Int.reduceBEq, Int.reduceBNe]
    refine ops_call (ga) rfl ?_; simp only [AW, reduceAdd, reduceCtorEq, reduceEqDiff, ↓reduceIte, reduceLT, reduceLeDiff, reduceSub, reducePow, reduceMul, reduceToNat, reduceLE, reduceEq, Int.reduceLT, Int.reduceBEq, Int.reduceBNe]
  simp only [AW, reduceAdd, reduceCtorEq, reduceEqDiff, ↓reduceIte, reduceLT, reduceLeDiff, reduceSub, reducePow, reduceMul, reduceToNat, reduceLE, reduceEq, Int.reduceLT, Int.reduceBEq, Int.reduceBNe]
  refine ops_call (gp) (by simp only [AW, reduceAdd, reduceCtorEq, reduceEqDiff, ↓reduceIte, reduceLT, reduceLeDiff, reduceSub, reducePow, reduceMul, reduceToNat, reduceLE, reduceEq, Int.reduceLT, Int.reduceBEq, Int.reduceBNe]) ?_; simp only [AW, reduceAdd, reduceCtorEq, reduceEqDiff, ↓reduceIte, reduceLT, reduceLeDiff, reduceSub, reducePow, reduceMul, reduceToNat, reduceLE, reduceEq, Int.reduceLT, Int.reduceBEq, Int.reduceBNe]
  cases hp : properB c.fares
  · simp only [AW, reduceAdd, reduceCtorEq, reduceEqDiff, ↓reduceIte, reduceLT, reduceLeDiff, reduceSub, reducePow, reduceMul, reduceToNat, reduceLE, reduceEq, Int.reduceLT, Int.reduceBEq, Int.reduceBNe]
    refine ops_call (ga) rfl ?_; simp only [AW, reduceAdd, reduceCtorEq, reduceEqDiff, ↓reduceIte, reduceLT, reduceLeDiff, reduceSub, reducePow, reduceMul, reduceToNat, reduceLE, reduceEq, Int.reduceLT, Int.reduceBEq, Int.reduceBNe]
  obtain ⟨hR, hI, h3, h4⟩ := fewC_iff hf
  have hI2 : ∀ f ∈ c.fares, f.items.length ≤ 1000 := fun f h => Nat.le_trans (hI f h) (by decide)
  have g1 := made_g c c.when_ hR hI2
  rcases made_cases c c.when_ with ⟨e, he, hm⟩ | ⟨ho, hm⟩
  · rw [hm] at g1
    simp only [makeP, zeroX, intP, InvS.pv, WinS.pv, WinS.vals, List.map_cons, List.map_nil, CaseS.pv, AW, reduceAdd, reduceCtorEq, reduceEqDiff, ↓reduceIte, reduceLT, reduceLeDiff, reduceSub, reducePow, reduceMul, reduceToNat, reduceLE, reduceEq, Int.reduceLT, Int.reduceBEq, Int.reduceBNe] at g1
    have he2 : (e != 0) = true := by simpa using he
    simp only [AW, reduceAdd, reduceCtorEq, reduceEqDiff, ↓reduceIte, reduceLT, reduceLeDiff, reduceSub, reducePow, reduceMul, reduceToNat, reduceLE, reduceEq, Int.reduceLT, Int.reduceBEq, Int.reduceBNe]
    refine ops_call (g1) (by simp only [AW, reduceAdd, reduceCtorEq, reduceEqDiff, ↓reduceIte, reduceLT, reduceLeDiff, reduceSub, reducePow, reduceMul, reduceToNat, reduceLE, reduceEq, Int.reduceLT, Int.reduceBEq, Int.reduceBNe]) ?_; simp only [AW, reduceAdd, reduceCtorEq, reduceEqDiff, ↓reduceIte, reduceLT, reduceLeDiff, reduceSub, reducePow, reduceMul, reduceToNat, reduceLE, reduceEq, Int.reduceLT, Int.reduceBEq, Int.reduceBNe]
    simp only [he2, AW, reduceAdd, reduceCtorEq, reduceEqDiff, ↓reduceIte, reduceLT, reduceLeDiff, reduceSub, reducePow, reduceMul, reduceToNat, reduceLE, reduceEq, Int.reduceLT, Int.reduceBEq, Int.reduceBNe]
    refine ops_call (ga) rfl ?_; simp only [AW, reduceAdd, reduceCtorEq, reduceEqDiff, ↓reduceIte, reduceLT, reduceLeDiff, reduceSub, reducePow, reduceMul, reduceToNat, reduceLE, reduceEq, Int.reduceLT, Int.reduceBEq, Int.reduceBNe]
  have hp2 := hp
  unfold properB at hp2
  rw [Bool.and_eq_true, decide_eq_true_eq, List.all_eq_true] at hp2
  obtain ⟨hadd, hN⟩ := hp2
  have hfl : (mineF c.rides c.rider c.when_ c.fares).length ≤ c.fares.length := List.length_filter_le _ _
  have hmem : ∀ f ∈ mineF c.rides c.rider c.when_ c.fares, f ∈ c.fares ∧ f.rider = c.rider := fun f h => by
    obtain ⟨h1, h2⟩ := List.mem_filter.1 h
    unfold mineB at h2
    simp only [Bool.and_eq_true, beq_iff_eq] at h2
    exact ⟨h1, h2.1.1⟩
  have hmN : ((mineF c.rides c.rider c.when_ c.fares).map (·.ride)).Nodup := nodup_filter _ hN
  have hnet := netS_eq c.refunds hmN
  rw [hm, ← hnet] at g1
  clear hnet
  generalize hmi : mineF c.rides c.rider c.when_ c.fares = mine at *
  generalize refsF mine c.refunds = refs at *
  obtain ⟨-, hamt⟩ := check_amt ho.chk
  simp only [makeP, intP, InvS.pv, WinS.pv, WinS.vals, List.map_cons, List.map_nil, CaseS.pv, AW, reduceAdd, reduceCtorEq, reduceEqDiff, ↓reduceIte, reduceLT, reduceLeDiff, reduceSub, reducePow, reduceMul, reduceToNat, reduceLE, reduceEq, Int.reduceLT, Int.reduceBEq, Int.reduceBNe] at g1
  have hlen : mine.length ≤ maxLen := by unfold maxLen; omega
  simp only [AW, reduceAdd, reduceCtorEq, reduceEqDiff, ↓reduceIte, reduceLT, reduceLeDiff, reduceSub, reducePow, reduceMul, reduceToNat, reduceLE, reduceEq, Int.reduceLT, Int.reduceBEq, Int.reduceBNe]
  refine ops_call (g1) (by simp only [AW, reduceAdd, reduceCtorEq, reduceEqDiff, ↓reduceIte, reduceLT, reduceLeDiff, reduceSub, reducePow, reduceMul, reduceToNat, reduceLE, reduceEq, Int.reduceLT, Int.reduceBEq, Int.reduceBNe]) ?_; simp only [AW, reduceAdd, reduceCtorEq, reduceEqDiff, ↓reduceIte, reduceLT, reduceLeDiff, reduceSub, reducePow, reduceMul, reduceToNat, reduceLE, reduceEq, Int.reduceLT, Int.reduceBEq, Int.reduceBNe]
  refine run_loop (ι := Nat) (fun k => ⟨[(1, .ptr 0 0), (3, .ptr 18 0), (5, .sc (.int .i64 (netS c.refunds (mine.take k)))), (6, .sc (.int .i64 (k : Int)))], [(0, .var [.sc (.int .i64 c.id), .sc (.int .i64 c.rider), .sc (.int .i64 c.when_.from_), .sc (.int .i64 c.when_.to_), .sl (c.rides.map RideS.pv), .sl (c.fares.map FareS.pv), .sl (c.refunds.map RefS.pv)]), (18, .var [.sc (.int .i64 c.id), .sc (.int .i64 c.rider), .sc (.int .i64 c.when_.from_), .sc (.int .i64 c.when_.to_), .sl (mine.map FareS.pv), .sl (refs.map RefS.pv), .sc (.int .i64 (netS c.refunds mine))])], 25, 78⟩) (fun k => k ≤ mine.length) (fun k => mine.length - k) 25 (fun _ => rfl) 0 (by simp only [LW, Nat.reduceMod, Nat.reduceDiv, Int.natCast_zero, List.take_zero, netS, List.map_nil, List.sum_nil, AW, reduceAdd, reduceCtorEq, reduceEqDiff, ↓reduceIte, reduceLT, reduceLeDiff, reduceSub, reducePow, reduceMul, reduceToNat, reduceLE, reduceEq, Int.reduceLT, Int.reduceBEq, Int.reduceBNe]) (Nat.zero_le _) (fun k hk => ?_)
  have gk := hk
  by_cases hltk : k < mine.length
  rotate_left
  · have dk : decide ((k : Int) < ((mine.length : Nat) : Int)) = false := by rw [decide_eq_false_iff_not]; exact fun h => hltk (Int.ofNat_lt.1 h)
    have ek : k = mine.length := Nat.le_antisymm gk (Nat.le_of_not_lt hltk)
    subst ek
    rw [List.take_length]
    simp only [dk, List.length_map, AW, reduceAdd, reduceCtorEq, reduceEqDiff, ↓reduceIte, reduceLT, reduceLeDiff, reduceSub, reducePow, reduceMul, reduceToNat, reduceLE, reduceEq, Int.reduceLT, Int.reduceBEq, Int.reduceBNe]
    refine ops_call (ga) rfl ?_; simp only [AW, reduceAdd, reduceCtorEq, reduceEqDiff, ↓reduceIte, reduceLT, reduceLeDiff, reduceSub, reducePow, reduceMul, reduceToNat, reduceLE, reduceEq, Int.reduceLT, Int.reduceBEq, Int.reduceBNe]
  have dk : decide ((k : Int) < ((mine.length : Nat) : Int)) = true := by rw [decide_eq_true_eq]; exact Int.ofNat_lt.2 hltk
  obtain ⟨hin, hri⟩ := hmem _ (List.getElem_mem hltk)
  have gn := net_g c.fares c.refunds mine[k].ride
  have hb1 := added_bnd (hadd _ hin)
  have hb2 := sR_bnd hamt mine[k].ride
  rw [show netP c.fares c.refunds mine[k].ride = .tup [intP (mine[k].total - sR c.refunds mine[k].ride), intP 0] by
    unfold netP; rw [if_neg (by rw [ho.chk]; simp), find_nodup hN hin rfl]
    simp only []
    rw [wrap_id ⟨by omega, by omega⟩]] at gn
  have es := netS_succ c.refunds hltk
  have hb3 := netS_bnd h4 hamt (m := mine.take (k + 1)) (fun f h => hadd _ (hmem f (List.mem_of_mem_take h)).1)
  have ht : (mine.take (k + 1)).length ≤ 40 := by rw [List.length_take]; omega
  have w1 : IntKind.i64.wrap (netS c.refunds (mine.take k) + (mine[k].total - sR c.refunds mine[k].ride)) = netS c.refunds (mine.take (k + 1)) := by rw [← es]; exact wrap_id ⟨by omega, by omega⟩
  have hr2 : (mine[k].rider != c.rider) = false := by rw [hri]; exact bne_self_eq_false _
  simp only [intP, AW, reduceAdd, reduceCtorEq, reduceEqDiff, ↓reduceIte, reduceLT, reduceLeDiff, reduceSub, reducePow, reduceMul, reduceToNat, reduceLE, reduceEq, Int.reduceLT, Int.reduceBEq, Int.reduceBNe] at gn
  simp only [dk, List.length_map, map_getD hltk, hltk, FareS.pv, AW, reduceAdd, reduceCtorEq, reduceEqDiff, ↓reduceIte, reduceLT, reduceLeDiff, reduceSub, reducePow, reduceMul, reduceToNat, reduceLE, reduceEq, Int.reduceLT, Int.reduceBEq, Int.reduceBNe]
  refine ops_call (gn) (by simp only [intP, AW, reduceAdd, reduceCtorEq, reduceEqDiff, ↓reduceIte, reduceLT, reduceLeDiff, reduceSub, reducePow, reduceMul, reduceToNat, reduceLE, reduceEq, Int.reduceLT, Int.reduceBEq, Int.reduceBNe]) ?_; simp only [intP, AW, reduceAdd, reduceCtorEq, reduceEqDiff, ↓reduceIte, reduceLT, reduceLeDiff, reduceSub, reducePow, reduceMul, reduceToNat, reduceLE, reduceEq, Int.reduceLT, Int.reduceBEq, Int.reduceBNe]
  (try refine drawnK rfl ?_)
  simp only [List.length_map, map_getD hltk, hltk, FareS.pv, hr2, w1, AW, reduceAdd, reduceCtorEq, reduceEqDiff, ↓reduceIte, reduceLT, reduceLeDiff, reduceSub, reducePow, reduceMul, reduceToNat, reduceLE, reduceEq, Int.reduceLT, Int.reduceBEq, Int.reduceBNe]
  (try refine drawnK rfl ?_)
  (try simp only [w1, AW, reduceAdd, reduceCtorEq, reduceEqDiff, ↓reduceIte, reduceLT, reduceLeDiff, reduceSub, reducePow, reduceMul, reduceToNat, reduceLE, reduceEq, Int.reduceLT, Int.reduceBEq, Int.reduceBNe])
  (try simp only [wrap_succ hltk hlen, AW, reduceAdd, reduceCtorEq, reduceEqDiff, ↓reduceIte, reduceLT, reduceLeDiff, reduceSub, reducePow, reduceMul, reduceToNat, reduceLE, reduceEq, Int.reduceLT, Int.reduceBEq, Int.reduceBNe])
  refine ⟨k + 1, hltk, ?_, meas_lt hltk⟩
  simp only [LW, Nat.reduceMod, Nat.reduceDiv, AW, reduceAdd, reduceCtorEq, reduceEqDiff, ↓reduceIte, reduceLT, reduceLeDiff, reduceSub, reducePow, reduceMul, reduceToNat, reduceLE, reduceEq, Int.reduceLT, Int.reduceBEq, Int.reduceBNe]


end Go.Proofs.YtaejaogidkgalaaDoor
