/-
  slices.SortStableFunc: sorting by insertion, walked.
-/
import Derived.Test.YtjlhnlfalomenaaDoorSq
namespace Go.Proofs.YtjlhnlfalomenaaDoor
open Go.RowKit
open Nat (reduceAdd reduceEqDiff reduceLT reduceLeDiff reduceSub reducePow reduceMul)
open Int (reduceToNat reduceLE reduceEq)
set_option linter.unusedVariables false
set_option linter.unusedSimpArgs false
set_option linter.unnecessarySimpa false

structure CmpOk (F : FuncId) (p : PV) (cf : Int → Int → Int) (lt : Int → Int → Prop) (D : Int → Prop) : Prop where
  sto : Sto lt
  fn : ∃ fn, Tryd.prog.funcs[F]? = some fn ∧ (fn.name == "runtime.NumGoroutine") = false ∧ fn.body.isNone = false
  good : ∀ x y, D x → D y → Good Tryd.prog F [intP x, intP y, .bx p] (intP (cf x y))
  neg : ∀ x y, D x → D y → y < x → (cf x y < 0 ↔ lt x y)
theorem elD {D : Int → Prop} {l L : List Int} (hD : ∀ x ∈ l, D x) (h : L.Perm l) {i : Nat} (hi : i < L.length) : D (el L i) := hD _ (h.mem_iff.1 (el_mem hi))
theorem w1S {a : Nat} (h : 1 ≤ a) (hn : a ≤ maxLen) : IntKind.wrap .i64 ((a : Int) - 1) = ((a - 1 : Nat) : Int) := by
  have := wS (a := a) (b := 1) h hn; simpa using this
theorem w1N {a n : Nat} (h : a < n) (hn : n ≤ maxLen) : IntKind.wrap .i64 ((a : Int) + 1) = ((a + 1 : Nat) : Int) := wrap_succ h hn
set_option maxHeartbeats 4000000 in
theorem insertion_m {F : FuncId} {p : PV} {cf : Int → Int → Int} {lt : Int → Int → Prop} {D : Int → Prop} (hc : CmpOk F p cf lt D) (l l' : List Int) (a b : Nat) (hab : a ≤ b) (hb : b ≤ l.length) (hl : l.length < maxLen) (hord : ∀ i j, a ≤ i → i < j → j < b → el l i < el l j) (hD : ∀ x ∈ l, D x) (h' : Srt lt a b l l') :
    GoodM Tryd.prog 54 [] [intP (a : Int), intP (b : Int), .clo F [.bx p]] 3 1 (l.map intP) (.tup []) (l'.map intP) := by
  obtain ⟨fn, hf, hn1, hn2⟩ := hc.fn
  refine goodM54 (by simp) rfl (ints_sc _) ?_
  have w0 := w1N (a := a) (n := l.length + 1) (by omega) (by omega)
  simp only [ac54, intP, w0, AW, reduceAdd, reduceCtorEq, reduceEqDiff, ↓reduceIte, reduceLT, reduceLeDiff, reduceSub, reducePow, reduceMul, reduceToNat, reduceLE, reduceEq, Int.reduceLT, Int.reduceBEq, Int.reduceBNe]
  refine run_loop (ι := Nat × List Int) (fun x => ⟨[(0, .own 0 0), (1, .sc (.int .i64 (a : Int))), (2, .sc (.int .i64 (b : Int))), (3, .clo F [.bx p]), (8, .sc (.int .i64 (x.1 : Int)))], [(0, .row 3 1 0 (x.2.map intP))], 4, 53⟩) (fun x => a < x.1 ∧ (x.1 ≤ b ∨ x.1 = a + 1 ∧ x.2 = l) ∧ Srt lt a x.1 l x.2) (fun x => b + 1 - x.1) 4 (fun _ => rfl) (a + 1, l) (by simp only [LW, Nat.reduceMod, Nat.reduceDiv, intP, AW, reduceAdd, reduceCtorEq, reduceEqDiff, ↓reduceIte, reduceLT, reduceLeDiff, reduceSub, reducePow, reduceMul, reduceToNat, reduceLE, reduceEq, Int.reduceLT, Int.reduceBEq, Int.reduceBNe]) ⟨by simp only; omega, .inr ⟨rfl, rfl⟩, Srt.refl (fun i j h1 h2 h3 => by simp only at h3; omega)⟩ ?_
  rintro ⟨i, L⟩ ⟨hi, hib, hs⟩
  simp only at hi hib hs
  have eL := hs.len
  by_cases hlt : i < b
  rotate_left
  · have d1 : decide ((i : Int) < (b : Int)) = false := by rw [dlt, decide_eq_false_iff_not]; exact hlt
    have e : L = l' := by
      rcases hib with h1 | ⟨h1, rfl⟩
      · have : i = b := by omega
        subst this
        exact Srt.unique hc.sto hab hb hs h'
      · exact Srt.unique hc.sto hab hb (Srt.refl (fun x y h3 h4 h5 => by omega)) h'
    simp only [d1, run_nil, endM, e, AW, reduceAdd, reduceCtorEq, reduceEqDiff, ↓reduceIte, reduceLT, reduceLeDiff, reduceSub, reducePow, reduceMul, reduceToNat, reduceLE, reduceEq, Int.reduceLT, Int.reduceBEq, Int.reduceBNe]
  have d1 : decide ((i : Int) < (b : Int)) = true := by rw [dlt, decide_eq_true_eq]; exact hlt
  have hib : i ≤ b := by omega
  simp only [d1, AW, reduceAdd, reduceCtorEq, reduceEqDiff, ↓reduceIte, reduceLT, reduceLeDiff, reduceSub, reducePow, reduceMul, reduceToNat, reduceLE, reduceEq, Int.reduceLT, Int.reduceBEq, Int.reduceBNe]
  refine run_loop (ι := Nat × List Int) (fun y => ⟨[(0, .own 0 0), (1, .sc (.int .i64 (a : Int))), (2, .sc (.int .i64 (b : Int))), (3, .clo F [.bx p]), (8, .sc (.int .i64 (i : Int))), (9, .sc (.int .i64 (y.1 : Int)))], [(0, .row 3 1 0 (y.2.map intP))], 9, 53⟩) (fun y => Ins lt a i y.1 l y.2) (fun y => y.1) 9 (fun _ => rfl) (i, L) (by simp only [LW, Nat.reduceMod, Nat.reduceDiv, intP, AW, reduceAdd, reduceCtorEq, reduceEqDiff, ↓reduceIte, reduceLT, reduceLeDiff, reduceSub, reducePow, reduceMul, reduceToNat, reduceLE, reduceEq, Int.reduceLT, Int.reduceBEq, Int.reduceBNe]) (Ins.start (by omega) (by omega) hs (fun x h1 h2 => hord x i h1 h2 hlt)) ?_
  rintro ⟨j, L2⟩ hI
  simp only at hI
  have eL2 := hI.perm.length_eq
  have hji := hI.hi
  have haj := hI.lo
  have wi := w1N (a := i) (n := l.length) (by omega) (by omega)
  by_cases hja : a < j
  rotate_left
  · have d2 : decide ((a : Int) < (j : Int)) = false := by rw [dlt, decide_eq_false_iff_not]; exact hja
    simp only [d2, AW, reduceAdd, reduceCtorEq, reduceEqDiff, ↓reduceIte, reduceLT, reduceLeDiff, reduceSub, reducePow, reduceMul, reduceToNat, reduceLE, reduceEq, Int.reduceLT, Int.reduceBEq, Int.reduceBNe]
    refine drawnK rfl ?_
    simp only [wi, AW, reduceAdd, reduceCtorEq, reduceEqDiff, ↓reduceIte, reduceLT, reduceLeDiff, reduceSub, reducePow, reduceMul, reduceToNat, reduceLE, reduceEq, Int.reduceLT, Int.reduceBEq, Int.reduceBNe]
    refine ⟨(i + 1, L2), ⟨by simp only; omega, .inl (by simp only; omega), hI.done hc.sto (.inl (by omega))⟩, ?_, by simp only; omega⟩
    simp only [LW, Nat.reduceMod, Nat.reduceDiv, intP, AW, reduceAdd, reduceCtorEq, reduceEqDiff, ↓reduceIte, reduceLT, reduceLeDiff, reduceSub, reducePow, reduceMul, reduceToNat, reduceLE, reduceEq, Int.reduceLT, Int.reduceBEq, Int.reduceBNe]
  have d2 : decide ((a : Int) < (j : Int)) = true := by rw [dlt, decide_eq_true_eq]; exact hja
  have wj := w1S (a := j) (by omega) (by omega)
  have b1 : j < L2.length := by omega
  have b2 : j - 1 < L2.length := by omega
  have hcmp := hc.neg (el L2 j) (el L2 (j - 1)) (elD hD hI.perm b1) (elD hD hI.perm b2) (hI.ord (j - 1) (by omega) (by omega) (by omega))
  simp only [d2, wj, b1, b2, map_el b1, map_el b2, List.length_map, AW, reduceAdd, reduceCtorEq, reduceEqDiff, ↓reduceIte, reduceLT, reduceLeDiff, reduceSub, reducePow, reduceMul, reduceToNat, reduceLE, reduceEq, Int.reduceLT, Int.reduceBEq, Int.reduceBNe]
  refine ops_callC (cs := [.bx p]) hf hn1 hn2 (by simp only [AW, reduceAdd, reduceCtorEq, reduceEqDiff, ↓reduceIte, reduceLT, reduceLeDiff, reduceSub, reducePow, reduceMul, reduceToNat, reduceLE, reduceEq, Int.reduceLT, Int.reduceBEq, Int.reduceBNe]) (hc.good (el L2 j) (el L2 (j - 1)) (elD hD hI.perm b1) (elD hD hI.perm b2)) (by simp only [intP, AW, reduceAdd, reduceCtorEq, reduceEqDiff, ↓reduceIte, reduceLT, reduceLeDiff, reduceSub, reducePow, reduceMul, reduceToNat, reduceLE, reduceEq, Int.reduceLT, Int.reduceBEq, Int.reduceBNe]) ?_
  simp only [intP, AW, reduceAdd, reduceCtorEq, reduceEqDiff, ↓reduceIte, reduceLT, reduceLeDiff, reduceSub, reducePow, reduceMul, reduceToNat, reduceLE, reduceEq, Int.reduceLT, Int.reduceBEq, Int.reduceBNe]
  refine drawnK rfl ?_
  by_cases ht : cf (el L2 j) (el L2 (j - 1)) < 0
  · have d3 : decide (cf (el L2 j) (el L2 (j - 1)) < 0) = true := decide_eq_true ht
    simp only [d3, wj, b1, b2, map_el b1, map_el b2, List.length_map, List.length_set, AW, reduceAdd, reduceCtorEq, reduceEqDiff, ↓reduceIte, reduceLT, reduceLeDiff, reduceSub, reducePow, reduceMul, reduceToNat, reduceLE, reduceEq, Int.reduceLT, Int.reduceBEq, Int.reduceBNe]
    refine drawnK rfl ?_
    (try simp only [wj, AW, reduceAdd, reduceCtorEq, reduceEqDiff, ↓reduceIte, reduceLT, reduceLeDiff, reduceSub, reducePow, reduceMul, reduceToNat, reduceLE, reduceEq, Int.reduceLT, Int.reduceBEq, Int.reduceBNe])
    refine ⟨(j - 1, sw L2 j (j - 1)), hI.step (by omega) hja (hcmp.1 ht), ?_, by simp only; omega⟩
    simp only [LW, Nat.reduceMod, Nat.reduceDiv, set_sw, AW, reduceAdd, reduceCtorEq, reduceEqDiff, ↓reduceIte, reduceLT, reduceLeDiff, reduceSub, reducePow, reduceMul, reduceToNat, reduceLE, reduceEq, Int.reduceLT, Int.reduceBEq, Int.reduceBNe]
  · have d3 : decide (cf (el L2 j) (el L2 (j - 1)) < 0) = false := decide_eq_false ht
    (try simp only [d3, wi, AW, reduceAdd, reduceCtorEq, reduceEqDiff, ↓reduceIte, reduceLT, reduceLeDiff, reduceSub, reducePow, reduceMul, reduceToNat, reduceLE, reduceEq, Int.reduceLT, Int.reduceBEq, Int.reduceBNe])
    refine ⟨(i + 1, L2), ⟨by simp only; omega, .inl (by simp only; omega), hI.done hc.sto (.inr (fun h => ht (hcmp.2 h)))⟩, ?_, by simp only; omega⟩
    simp only [LW, Nat.reduceMod, Nat.reduceDiv, intP, AW, reduceAdd, reduceCtorEq, reduceEqDiff, ↓reduceIte, reduceLT, reduceLeDiff, reduceSub, reducePow, reduceMul, reduceToNat, reduceLE, reduceEq, Int.reduceLT, Int.reduceBEq, Int.reduceBNe]


end Go.Proofs.YtjlhnlfalomenaaDoor
