/-
  slices.SortStableFunc: merging in place, walked.
-/
import Derived.Test.YtjlhnlfalomenaaDoorSs
namespace Go.Proofs.YtjlhnlfalomenaaDoor
open Go.RowKit
open Nat (reduceAdd reduceEqDiff reduceLT reduceLeDiff reduceSub reducePow reduceMul)
open Int (reduceToNat reduceLE reduceEq)
set_option linter.unusedVariables false
set_option linter.unusedSimpArgs false
set_option linter.unnecessarySimpa false

theorem rot_sorted {lt : Int → Int → Prop} {a s m e b : Nat} {l : List Int} (h1 : a ≤ s) (h2 : s ≤ m) (h3 : m ≤ e) (h4 : e ≤ b) (h5 : b ≤ l.length) (k1 : SortedOn lt l a m) (k2 : SortedOn lt l m b) (ko : OrdOn l a m b) :
    SortedOn lt (rot l s m e) a s ∧ SortedOn lt (rot l s m e) s (s + (e - m)) ∧ OrdOn (rot l s m e) a s (s + (e - m)) ∧ SortedOn lt (rot l s m e) (s + (e - m)) e ∧ SortedOn lt (rot l s m e) e b ∧ OrdOn (rot l s m e) (s + (e - m)) e b := by
  have r := rot_el h2 h3 (Nat.le_trans h4 h5)
  refine ⟨fun i j q1 q2 q3 => ?_, fun i j q1 q2 q3 => ?_, fun i j q1 q2 q3 q4 => ?_, fun i j q1 q2 q3 => ?_, fun i j q1 q2 q3 => ?_, fun i j q1 q2 q3 q4 => ?_⟩
  · rw [r, r, if_neg (by omega), if_neg (by omega), if_neg (by omega), if_neg (by omega)]; exact k1 i j q1 q2 (by omega)
  · rw [r, r, if_pos (by omega), if_pos (by omega)]; exact k2 _ _ (by omega) (by omega) (by omega)
  · rw [r, r, if_neg (by omega), if_neg (by omega), if_pos (by omega)]; exact ko _ _ q1 (by omega) (by omega) (by omega)
  · rw [r, r, if_neg (by omega), if_pos (by omega), if_neg (by omega), if_pos (by omega)]; exact k1 _ _ (by omega) (by omega) (by omega)
  · rw [r, r, if_neg (by omega), if_neg (by omega), if_neg (by omega), if_neg (by omega)]; exact k2 i j (by omega) q2 q3
  · rw [r, r, if_neg (by omega), if_pos (by omega), if_neg (by omega), if_neg (by omega)]; exact ko _ _ (by omega) (by omega) (by omega) (by omega)
theorem sorted_congr {lt : Int → Int → Prop} {l l' : List Int} {a b : Nat} (h : SortedOn lt l a b) (he : ∀ i, a ≤ i → i < b → el l' i = el l i) : SortedOn lt l' a b := fun i j q1 q2 q3 => by rw [he i q1 (by omega), he j (by omega) q3]; exact h i j q1 q2 q3
theorem ord_congr {l l' : List Int} {a m b : Nat} (h : OrdOn l a m b) (he : ∀ i, a ≤ i → i < b → el l' i = el l i) : OrdOn l' a m b := fun i j q1 q2 q3 q4 => by rw [he i q1 (by omega), he j (by omega) q4]; exact h i j q1 q2 q3 q4
theorem sorted_one {lt : Int → Int → Prop} {l : List Int} {a b : Nat} (h : b ≤ a + 1) : SortedOn lt l a b := fun i j q1 q2 q3 => by omega
theorem half_w {a b n : Nat} (h : a + b ≤ n + n) (hn : n ≤ 1000000) : IntKind.wrap .i64 ((IntKind.wrap .u64 (IntKind.wrap .i64 ((a : Int) + (b : Int)))).fdiv (2 ^ min 1 IntKind.u64.bits)) = (((a + b) / 2 : Nat) : Int) := by
  rw [wrap_id (n := (a : Int) + (b : Int)) (by unfold I64; omega)]
  have e1 : IntKind.wrap .u64 ((a : Int) + (b : Int)) = (a : Int) + (b : Int) := by rw [IntKind.wrap_u64]; omega
  have e2 : (2 : Int) ^ min 1 IntKind.u64.bits = 2 := rfl
  rw [e1, e2, Int.fdiv_eq_ediv_of_nonneg _ (by omega), wrap_id (by unfold I64; omega)]
  omega
set_option maxHeartbeats 4000000 in
theorem symA {F : FuncId} {p : PV} {cf : Int → Int → Int} {lt : Int → Int → Prop} {D : Int → Prop} (hc : CmpOk F p cf lt D) {N a m b : Nat} {l l2 : List Int} (hN : b - a ≤ N) (ham : a < m) (hmb : m < b) (hb : b ≤ l.length) (hl : l.length ≤ 1000000) (hn : l.Nodup) (k1 : SortedOn lt l a m) (k2 : SortedOn lt l m b) (ko : OrdOn l a m b) (hD : ∀ x ∈ l, D x) (h1 : Srt lt a b l l2) (hc1 : m - a = 1) : GoodM Tryd.prog 55 [] [intP (a : Int), intP (m : Int), intP (b : Int), .clo F [.bx p]] 3 1 (l.map intP) (.tup []) (l2.map intP) := by
  obtain ⟨fn, hf, hn1, hn2⟩ := hc.fn
  have hm : l.length < maxLen := by unfold maxLen; omega
  refine goodM55 (by simp) rfl (ints_sc _) ?_
  have w1 := wS (a := m) (b := a) (by omega) (by omega)
  have z1 : (((m - a : Nat) : Int) == 1) = true := by rw [hc1]; rfl
  have la : a < l.length := by omega
  simp only [ac55, intP, w1, z1, AW, reduceAdd, reduceCtorEq, reduceEqDiff, ↓reduceIte, reduceLT, reduceLeDiff, reduceSub, reducePow, reduceMul, reduceToNat, reduceLE, reduceEq, Int.reduceLT, Int.reduceBEq, Int.reduceBNe]
  refine run_loop (ι := Nat × Nat) (fun x => ⟨[(0, .own 0 0), (1, .sc (.int .i64 ((a : Nat) : Int))), (4, .clo F [.bx p]), (10, .sc (.int .i64 ((x.1 : Nat) : Int))), (11, .sc (.int .i64 ((x.2 : Nat) : Int)))], [(0, .row 3 1 0 ((l).map intP))], 9, 220⟩) (fun x => m ≤ x.1 ∧ x.1 ≤ x.2 ∧ x.2 ≤ b ∧ (x.1 = m ∨ lt (el l (x.1 - 1)) (el l a)) ∧ (x.2 = b ∨ lt (el l a) (el l x.2))) (fun x => x.2 - x.1) 9 (fun _ => rfl) (m, b) (by simp only [LW, Nat.reduceMod, Nat.reduceDiv, intP, AW, reduceAdd, reduceCtorEq, reduceEqDiff, ↓reduceIte, reduceLT, reduceLeDiff, reduceSub, reducePow, reduceMul, reduceToNat, reduceLE, reduceEq, Int.reduceLT, Int.reduceBEq, Int.reduceBNe]) ⟨Nat.le_refl _, by simp only; omega, Nat.le_refl _, .inl rfl, .inl rfl⟩ ?_
  rintro ⟨i, j⟩ ⟨g1, g2, g3, g4, g5⟩
  simp only at g1 g2 g3 g4 g5
  by_cases hlt : i < j
  rotate_left
  · have d1 : decide ((i : Int) < (j : Int)) = false := by rw [dlt, decide_eq_false_iff_not]; exact hlt
    have ej : j = i := by omega
    subst ej
    have e : mvr l a (j - 1 - a) = l2 := Srt.unique hc.sto (by omega) hb (srt_mvr hc.sto (by omega) g3 hb (by rw [show a + 1 = m by omega]; exact k2) (by rcases g4 with g4 | g4; exact .inl (by omega); exact .inr g4) g5) h1
    simp only [d1, AW, reduceAdd, reduceCtorEq, reduceEqDiff, ↓reduceIte, reduceLT, reduceLeDiff, reduceSub, reducePow, reduceMul, reduceToNat, reduceLE, reduceEq, Int.reduceLT, Int.reduceBEq, Int.reduceBNe]
    refine run_loop (ι := Nat) (fun t => ⟨[(0, .own 0 0), (10, .sc (.int .i64 ((j : Nat) : Int))), (13, .sc (.int .i64 ((a + t : Nat) : Int)))], [(0, .row 3 1 0 ((mvr l a t).map intP))], 14, 220⟩) (fun t => t ≤ j - 1 - a) (fun t => j - 1 - a - t) 14 (fun _ => rfl) 0 (by simp only [LW, Nat.reduceMod, Nat.reduceDiv, Nat.add_zero, mvr, intP, AW, reduceAdd, reduceCtorEq, reduceEqDiff, ↓reduceIte, reduceLT, reduceLeDiff, reduceSub, reducePow, reduceMul, reduceToNat, reduceLE, reduceEq, Int.reduceLT, Int.reduceBEq, Int.reduceBNe]) (Nat.zero_le _) (fun t ht => ?_)
    have wj := w1S (a := j) (by omega) (by omega)
    by_cases hlt2 : a + t < j - 1
    · have d2 : decide (((a + t : Nat) : Int) < ((j - 1 : Nat) : Int)) = true := by rw [dlt, decide_eq_true_eq]; exact hlt2
      have eL := mvr_len l a t
      have b1 : a + t < (mvr l a t).length := by omega
      have b2 : a + t + 1 < (mvr l a t).length := by omega
      have wt := w1N (a := a + t) (n := l.length) (by omega) (by omega)
      simp only [wj, d2, wt, b1, b2, map_el b1, map_el b2, List.length_map, List.length_set, AW, reduceAdd, reduceCtorEq, reduceEqDiff, ↓reduceIte, reduceLT, reduceLeDiff, reduceSub, reducePow, reduceMul, reduceToNat, reduceLE, reduceEq, Int.reduceLT, Int.reduceBEq, Int.reduceBNe]
      refine drawnK rfl ?_
      (try simp only [wt, AW, reduceAdd, reduceCtorEq, reduceEqDiff, ↓reduceIte, reduceLT, reduceLeDiff, reduceSub, reducePow, reduceMul, reduceToNat, reduceLE, reduceEq, Int.reduceLT, Int.reduceBEq, Int.reduceBNe])
      refine ⟨t + 1, by omega, ?_, by omega⟩
      simp only [LW, Nat.reduceMod, Nat.reduceDiv, set_sw, mvr, Nat.add_assoc, AW, reduceAdd, reduceCtorEq, reduceEqDiff, ↓reduceIte, reduceLT, reduceLeDiff, reduceSub, reducePow, reduceMul, reduceToNat, reduceLE, reduceEq, Int.reduceLT, Int.reduceBEq, Int.reduceBNe]
    · have d2 : decide (((a + t : Nat) : Int) < ((j - 1 : Nat) : Int)) = false := by rw [dlt, decide_eq_false_iff_not]; exact hlt2
      have et : t = j - 1 - a := by omega
      subst et
      simp only [wj, d2, endM, run_nil, e, AW, reduceAdd, reduceCtorEq, reduceEqDiff, ↓reduceIte, reduceLT, reduceLeDiff, reduceSub, reducePow, reduceMul, reduceToNat, reduceLE, reduceEq, Int.reduceLT, Int.reduceBEq, Int.reduceBNe]
  have d1 : decide ((i : Int) < (j : Int)) = true := by rw [dlt, decide_eq_true_eq]; exact hlt
  have wh := half_w (a := i) (b := j) (n := l.length) (by omega) (by omega)
  obtain ⟨h, hh⟩ : ∃ h, h = (i + j) / 2 := ⟨_, rfl⟩
  rw [← hh] at wh
  have q1 : i ≤ h := by omega
  have q2 : h < j := by omega
  have bh : h < l.length := by omega
  have wh1 := w1N (a := h) (n := l.length) bh (by omega)
  have hcmp := hc.neg (el l h) (el l a) (hD _ (el_mem bh)) (hD _ (el_mem la)) (ko a h (Nat.le_refl _) ham (by omega) (by omega))
  have hne : el l h ≠ el l a := by have := ko a h (Nat.le_refl _) ham (by omega) (by omega); omega
  simp only [d1, wh, bh, la, map_el bh, map_el la, List.length_map, AW, reduceAdd, reduceCtorEq, reduceEqDiff, ↓reduceIte, reduceLT, reduceLeDiff, reduceSub, reducePow, reduceMul, reduceToNat, reduceLE, reduceEq, Int.reduceLT, Int.reduceBEq, Int.reduceBNe]
  refine ops_callC (cs := [.bx p]) hf hn1 hn2 (by simp only [AW, reduceAdd, reduceCtorEq, reduceEqDiff, ↓reduceIte, reduceLT, reduceLeDiff, reduceSub, reducePow, reduceMul, reduceToNat, reduceLE, reduceEq, Int.reduceLT, Int.reduceBEq, Int.reduceBNe]) (hc.good (el l h) (el l a) (hD _ (el_mem bh)) (hD _ (el_mem la))) (by simp only [intP, AW, reduceAdd, reduceCtorEq, reduceEqDiff, ↓reduceIte, reduceLT, reduceLeDiff, reduceSub, reducePow, reduceMul, reduceToNat, reduceLE, reduceEq, Int.reduceLT, Int.reduceBEq, Int.reduceBNe]) ?_
  simp only [intP, AW, reduceAdd, reduceCtorEq, reduceEqDiff, ↓reduceIte, reduceLT, reduceLeDiff, reduceSub, reducePow, reduceMul, reduceToNat, reduceLE, reduceEq, Int.reduceLT, Int.reduceBEq, Int.reduceBNe]
  refine drawnK rfl ?_
  by_cases ht : cf (el l h) (el l a) < 0
  · have d3 : decide (cf (el l h) (el l a) < 0) = true := decide_eq_true ht
    simp only [d3, wh1, AW, reduceAdd, reduceCtorEq, reduceEqDiff, ↓reduceIte, reduceLT, reduceLeDiff, reduceSub, reducePow, reduceMul, reduceToNat, reduceLE, reduceEq, Int.reduceLT, Int.reduceBEq, Int.reduceBNe]
    refine ⟨(h + 1, j), ⟨by simp only; omega, by simp only; omega, g3, .inr (by simp only [Nat.add_sub_cancel]; exact hcmp.1 ht), g5⟩, ?_, by simp only; omega⟩
    simp only [LW, Nat.reduceMod, Nat.reduceDiv, intP, AW, reduceAdd, reduceCtorEq, reduceEqDiff, ↓reduceIte, reduceLT, reduceLeDiff, reduceSub, reducePow, reduceMul, reduceToNat, reduceLE, reduceEq, Int.reduceLT, Int.reduceBEq, Int.reduceBNe]
  · have d3 : decide (cf (el l h) (el l a) < 0) = false := decide_eq_false ht
    simp only [d3, AW, reduceAdd, reduceCtorEq, reduceEqDiff, ↓reduceIte, reduceLT, reduceLeDiff, reduceSub, reducePow, reduceMul, reduceToNat, reduceLE, reduceEq, Int.reduceLT, Int.reduceBEq, Int.reduceBNe]
    have hla : lt (el l a) (el l h) := (hc.sto.tri hne).elim (fun h => absurd (hcmp.2 h) ht) id
    refine ⟨(i, h), ⟨g1, q1, by simp only; omega, g4, .inr hla⟩, ?_, by simp only; omega⟩
    simp only [LW, Nat.reduceMod, Nat.reduceDiv, intP, AW, reduceAdd, reduceCtorEq, reduceEqDiff, ↓reduceIte, reduceLT, reduceLeDiff, reduceSub, reducePow, reduceMul, reduceToNat, reduceLE, reduceEq, Int.reduceLT, Int.reduceBEq, Int.reduceBNe]
set_option maxHeartbeats 4000000 in
theorem symB {F : FuncId} {p : PV} {cf : Int → Int → Int} {lt : Int → Int → Prop} {D : Int → Prop} (hc : CmpOk F p cf lt D) {N a m b : Nat} {l l2 : List Int} (hN : b - a ≤ N) (ham : a < m) (hmb : m < b) (hb : b ≤ l.length) (hl : l.length ≤ 1000000) (hn : l.Nodup) (k1 : SortedOn lt l a m) (k2 : SortedOn lt l m b) (ko : OrdOn l a m b) (hD : ∀ x ∈ l, D x) (h1 : Srt lt a b l l2) (hc1 : ¬ m - a = 1) (hc2 : b - m = 1) : GoodM Tryd.prog 55 [] [intP (a : Int), intP (m : Int), intP (b : Int), .clo F [.bx p]] 3 1 (l.map intP) (.tup []) (l2.map intP) := by
  obtain ⟨fn, hf, hn1, hn2⟩ := hc.fn
  have hm : l.length < maxLen := by unfold maxLen; omega
  refine goodM55 (by simp) rfl (ints_sc _) ?_
  have w1 := wS (a := m) (b := a) (by omega) (by omega)
  have w2 := wS (a := b) (b := m) (by omega) (by omega)
  have z1 : (((m - a : Nat) : Int) == 1) = false := by have := deq (a := m - a) (b := 1); simp only [Int.natCast_one] at this; rw [this, decide_eq_false hc1]
  have z2 : (((b - m : Nat) : Int) == 1) = true := by rw [hc2]; rfl
  have la : m < l.length := by omega
  have eb : b = m + 1 := by omega
  simp only [ac55, intP, w1, z1, w2, z2, AW, reduceAdd, reduceCtorEq, reduceEqDiff, ↓reduceIte, reduceLT, reduceLeDiff, reduceSub, reducePow, reduceMul, reduceToNat, reduceLE, reduceEq, Int.reduceLT, Int.reduceBEq, Int.reduceBNe]
  refine run_loop (ι := Nat × Nat) (fun x => ⟨[(0, .own 0 0), (2, .sc (.int .i64 ((m : Nat) : Int))), (4, .clo F [.bx p]), (14, .sc (.int .i64 ((x.1 : Nat) : Int))), (15, .sc (.int .i64 ((x.2 : Nat) : Int)))], [(0, .row 3 1 0 ((l).map intP))], 13, 220⟩) (fun x => a ≤ x.1 ∧ x.1 ≤ x.2 ∧ x.2 ≤ m ∧ (x.1 = a ∨ lt (el l (x.1 - 1)) (el l m)) ∧ (x.2 = m ∨ lt (el l m) (el l x.2))) (fun x => x.2 - x.1) 13 (fun _ => rfl) (a, m) (by simp only [LW, Nat.reduceMod, Nat.reduceDiv, intP, AW, reduceAdd, reduceCtorEq, reduceEqDiff, ↓reduceIte, reduceLT, reduceLeDiff, reduceSub, reducePow, reduceMul, reduceToNat, reduceLE, reduceEq, Int.reduceLT, Int.reduceBEq, Int.reduceBNe]) ⟨Nat.le_refl _, by simp only; omega, Nat.le_refl _, .inl rfl, .inl rfl⟩ ?_
  rintro ⟨i, j⟩ ⟨g1, g2, g3, g4, g5⟩
  simp only at g1 g2 g3 g4 g5
  by_cases hlt : i < j
  rotate_left
  · have d1 : decide ((i : Int) < (j : Int)) = false := by rw [dlt, decide_eq_false_iff_not]; exact hlt
    have ej : j = i := by omega
    subst ej
    have e : mvl l m (m - j) = l2 := Srt.unique hc.sto (by omega) hb (by rw [eb]; exact srt_mvl hc.sto g1 g3 la k1 g4 g5) h1
    simp only [d1, AW, reduceAdd, reduceCtorEq, reduceEqDiff, ↓reduceIte, reduceLT, reduceLeDiff, reduceSub, reducePow, reduceMul, reduceToNat, reduceLE, reduceEq, Int.reduceLT, Int.reduceBEq, Int.reduceBNe]
    refine run_loop (ι := Nat) (fun t => ⟨[(0, .own 0 0), (14, .sc (.int .i64 ((j : Nat) : Int))), (17, .sc (.int .i64 ((m - t : Nat) : Int)))], [(0, .row 3 1 0 ((mvl l m t).map intP))], 18, 220⟩) (fun t => t ≤ m - j) (fun t => m - j - t) 18 (fun _ => rfl) 0 (by simp only [LW, Nat.reduceMod, Nat.reduceDiv, Nat.sub_zero, mvl, intP, AW, reduceAdd, reduceCtorEq, reduceEqDiff, ↓reduceIte, reduceLT, reduceLeDiff, reduceSub, reducePow, reduceMul, reduceToNat, reduceLE, reduceEq, Int.reduceLT, Int.reduceBEq, Int.reduceBNe]) (Nat.zero_le _) (fun t ht => ?_)
    by_cases hlt2 : j < m - t
    · have d2 : decide ((j : Int) < ((m - t : Nat) : Int)) = true := by rw [dlt, decide_eq_true_eq]; exact hlt2
      have eL := mvl_len l m t
      have b1 : m - t < (mvl l m t).length := by omega
      have b2 : m - t - 1 < (mvl l m t).length := by omega
      have wt := w1S (a := m - t) (by omega) (by omega)
      simp only [d2, wt, b1, b2, map_el b1, map_el b2, List.length_map, List.length_set, AW, reduceAdd, reduceCtorEq, reduceEqDiff, ↓reduceIte, reduceLT, reduceLeDiff, reduceSub, reducePow, reduceMul, reduceToNat, reduceLE, reduceEq, Int.reduceLT, Int.reduceBEq, Int.reduceBNe]
      refine drawnK rfl ?_
      (try simp only [wt, AW, reduceAdd, reduceCtorEq, reduceEqDiff, ↓reduceIte, reduceLT, reduceLeDiff, reduceSub, reducePow, reduceMul, reduceToNat, reduceLE, reduceEq, Int.reduceLT, Int.reduceBEq, Int.reduceBNe])
      refine ⟨t + 1, by omega, ?_, by omega⟩
      simp only [LW, Nat.reduceMod, Nat.reduceDiv, set_sw, mvl, Nat.sub_sub, AW, reduceAdd, reduceCtorEq, reduceEqDiff, ↓reduceIte, reduceLT, reduceLeDiff, reduceSub, reducePow, reduceMul, reduceToNat, reduceLE, reduceEq, Int.reduceLT, Int.reduceBEq, Int.reduceBNe]
    · have d2 : decide ((j : Int) < ((m - t : Nat) : Int)) = false := by rw [dlt, decide_eq_false_iff_not]; exact hlt2
      have et : t = m - j := by omega
      subst et
      simp only [d2, endM, run_nil, e, AW, reduceAdd, reduceCtorEq, reduceEqDiff, ↓reduceIte, reduceLT, reduceLeDiff, reduceSub, reducePow, reduceMul, reduceToNat, reduceLE, reduceEq, Int.reduceLT, Int.reduceBEq, Int.reduceBNe]
  have d1 : decide ((i : Int) < (j : Int)) = true := by rw [dlt, decide_eq_true_eq]; exact hlt
  have wh := half_w (a := i) (b := j) (n := l.length) (by omega) (by omega)
  obtain ⟨h, hh⟩ : ∃ h, h = (i + j) / 2 := ⟨_, rfl⟩
  rw [← hh] at wh
  have q1 : i ≤ h := by omega
  have q2 : h < j := by omega
  have bh : h < l.length := by omega
  have wh1 := w1N (a := h) (n := l.length) bh (by omega)
  have ho := ko h m (by omega) (by omega) (Nat.le_refl _) hmb
  have hcmp := hc.neg (el l m) (el l h) (hD _ (el_mem la)) (hD _ (el_mem bh)) ho
  have hne : el l m ≠ el l h := by omega
  simp only [d1, wh, bh, la, map_el bh, map_el la, List.length_map, AW, reduceAdd, reduceCtorEq, reduceEqDiff, ↓reduceIte, reduceLT, reduceLeDiff, reduceSub, reducePow, reduceMul, reduceToNat, reduceLE, reduceEq, Int.reduceLT, Int.reduceBEq, Int.reduceBNe]
  refine ops_callC (cs := [.bx p]) hf hn1 hn2 (by simp only [AW, reduceAdd, reduceCtorEq, reduceEqDiff, ↓reduceIte, reduceLT, reduceLeDiff, reduceSub, reducePow, reduceMul, reduceToNat, reduceLE, reduceEq, Int.reduceLT, Int.reduceBEq, Int.reduceBNe]) (hc.good (el l m) (el l h) (hD _ (el_mem la)) (hD _ (el_mem bh))) (by simp only [intP, AW, reduceAdd, reduceCtorEq, reduceEqDiff, ↓reduceIte, reduceLT, reduceLeDiff, reduceSub, reducePow, reduceMul, reduceToNat, reduceLE, reduceEq, Int.reduceLT, Int.reduceBEq, Int.reduceBNe]) ?_
  simp only [intP, AW, reduceAdd, reduceCtorEq, reduceEqDiff, ↓reduceIte, reduceLT, reduceLeDiff, reduceSub, reducePow, reduceMul, reduceToNat, reduceLE, reduceEq, Int.reduceLT, Int.reduceBEq, Int.reduceBNe]
  refine drawnK rfl ?_
  by_cases ht : cf (el l m) (el l h) < 0
  · have d3 : decide (cf (el l m) (el l h) < 0) = true := decide_eq_true ht
    simp only [d3, AW, reduceAdd, reduceCtorEq, reduceEqDiff, ↓reduceIte, reduceLT, reduceLeDiff, reduceSub, reducePow, reduceMul, reduceToNat, reduceLE, reduceEq, Int.reduceLT, Int.reduceBEq, Int.reduceBNe]
    refine ⟨(i, h), ⟨g1, q1, by simp only; omega, g4, .inr (hcmp.1 ht)⟩, ?_, by simp only; omega⟩
    simp only [LW, Nat.reduceMod, Nat.reduceDiv, intP, AW, reduceAdd, reduceCtorEq, reduceEqDiff, ↓reduceIte, reduceLT, reduceLeDiff, reduceSub, reducePow, reduceMul, reduceToNat, reduceLE, reduceEq, Int.reduceLT, Int.reduceBEq, Int.reduceBNe]
  · have d3 : decide (cf (el l m) (el l h) < 0) = false := decide_eq_false ht
    simp only [d3, wh1, AW, reduceAdd, reduceCtorEq, reduceEqDiff, ↓reduceIte, reduceLT, reduceLeDiff, reduceSub, reducePow, reduceMul, reduceToNat, reduceLE, reduceEq, Int.reduceLT, Int.reduceBEq, Int.reduceBNe]
    have hla : lt (el l h) (el l m) := (hc.sto.tri hne).elim (fun h => absurd (hcmp.2 h) ht) id
    refine ⟨(h + 1, j), ⟨by simp only; omega, by simp only; omega, g3, .inr (by simp only [Nat.add_sub_cancel]; exact hla), g5⟩, ?_, by simp only; omega⟩
    simp only [LW, Nat.reduceMod, Nat.reduceDiv, intP, AW, reduceAdd, reduceCtorEq, reduceEqDiff, ↓reduceIte, reduceLT, reduceLeDiff, reduceSub, reducePow, reduceMul, reduceToNat, reduceLE, reduceEq, Int.reduceLT, Int.reduceBEq, Int.reduceBNe]


end Go.Proofs.YtjlhnlfalomenaaDoor
