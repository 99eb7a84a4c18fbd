/-
  slices.SortStableFunc: merging in place, walked (the general case).
-/
import Derived.Test.YtjlhnlfalomenaaDoorSt
namespace Go.Proofs.YtjlhnlfalomenaaDoor
open Go.RowKit
open Nat (reduceAdd reduceEqDiff reduceLT reduceLeDiff reduceSub reducePow reduceMul)
open Int (reduceToNat reduceLE reduceEq)
set_option linter.unusedVariables false
set_option linter.unusedSimpArgs false
set_option linter.unnecessarySimpa false

set_option maxHeartbeats 8000000 in
theorem symC {F : FuncId} {p : PV} {cf : Int → Int → Int} {lt : Int → Int → Prop} {D : Int → Prop} (hc : CmpOk F p cf lt D) {N : Nat} (IH : ∀ {a m b : Nat} {l l2 : List Int} (hN : b - a ≤ N) (ham : a < m) (hmb : m < b) (hb : b ≤ l.length) (hl : l.length ≤ 1000000) (hn : l.Nodup) (k1 : SortedOn lt l a m) (k2 : SortedOn lt l m b) (ko : OrdOn l a m b) (hD : ∀ x ∈ l, D x) (h1 : Srt lt a b l l2), GoodM Tryd.prog 55 [] [intP (a : Int), intP (m : Int), intP (b : Int), .clo F [.bx p]] 3 1 (l.map intP) (.tup []) (l2.map intP)) {a m b : Nat} {l l2 : List Int} (hN : b - a ≤ N + 1) (ham : a < m) (hmb : m < b) (hb : b ≤ l.length) (hl : l.length ≤ 1000000) (hn : l.Nodup) (k1 : SortedOn lt l a m) (k2 : SortedOn lt l m b) (ko : OrdOn l a m b) (hD : ∀ x ∈ l, D x) (h1 : Srt lt a b l l2) (hc1 : ¬ m - a = 1) (hc2 : ¬ b - m = 1) : GoodM Tryd.prog 55 [] [intP (a : Int), intP (m : Int), intP (b : Int), .clo F [.bx p]] 3 1 (l.map intP) (.tup []) (l2.map intP) := by
  obtain ⟨fn, hf, hn1, hn2⟩ := hc.fn
  have hm : l.length < maxLen := by unfold maxLen; omega
  refine goodM55 (by simp) rfl (ints_sc _) ?_
  have w1 := wS (a := m) (b := a) (by omega) (by omega)
  have w2 := wS (a := b) (b := m) (by omega) (by omega)
  have z1 : (((m - a : Nat) : Int) == 1) = false := by have := deq (a := m - a) (b := 1); simp only [Int.natCast_one] at this; rw [this, decide_eq_false hc1]
  have z2 : (((b - m : Nat) : Int) == 1) = false := by have := deq (a := b - m) (b := 1); simp only [Int.natCast_one] at this; rw [this, decide_eq_false hc2]
  have wh := half_w (a := a) (b := b) (n := l.length) (by omega) (by omega)
  obtain ⟨d, hd⟩ : ∃ d, d = (a + b) / 2 := ⟨_, rfl⟩
  rw [← hd] at wh
  have w4 := wN (a := d) (b := m) (n := 2000000) (by omega) (by unfold maxLen; omega)
  have hm2 : d + m < maxLen := by unfold maxLen; omega
  have w5 := w1S (a := d + m) (by omega) (by omega)
  by_cases hdm : d < m
  · have z3 : decide ((d : Int) < (m : Int)) = true := by rw [dlt, decide_eq_true_eq]; exact hdm
    have w6 := wS (a := d + m) (b := b) (by omega) (by omega)
    simp only [ac55, intP, w1, z1, w2, z2, wh, w4, z3, w5, w6, AW, reduceAdd, reduceCtorEq, reduceEqDiff, ↓reduceIte, reduceLT, reduceLeDiff, reduceSub, reducePow, reduceMul, reduceToNat, reduceLE, reduceEq, Int.reduceLT, Int.reduceBEq, Int.reduceBNe]
    refine run_loop (ι := Nat × Nat) (fun x => ⟨[(0, .own 0 0), (1, .sc (.int .i64 ((a : Nat) : Int))), (2, .sc (.int .i64 ((m : Nat) : Int))), (3, .sc (.int .i64 ((b : Nat) : Int))), (4, .clo F [.bx p]), (18, .sc (.int .i64 ((d : Nat) : Int))), (19, .sc (.int .i64 ((d + m : Nat) : Int))), (20, .sc (.int .i64 ((x.1 : Nat) : Int))), (21, .sc (.int .i64 ((x.2 : Nat) : Int))), (22, .sc (.int .i64 ((d + m - 1 : Nat) : Int)))], [(0, .row 3 1 0 ((l).map intP))], 34, 220⟩) (fun x => (d + m - b) ≤ x.1 ∧ x.1 ≤ x.2 ∧ x.2 ≤ d ∧ (x.1 = (d + m - b) ∨ lt (el l (x.1 - 1)) (el l (d + m - x.1))) ∧ (x.2 = d ∨ lt (el l (d + m - 1 - x.2)) (el l x.2))) (fun x => x.2 - x.1) 34 (fun _ => rfl) ((d + m - b), d) (by simp only [LW, Nat.reduceMod, Nat.reduceDiv, intP, AW, reduceAdd, reduceCtorEq, reduceEqDiff, ↓reduceIte, reduceLT, reduceLeDiff, reduceSub, reducePow, reduceMul, reduceToNat, reduceLE, reduceEq, Int.reduceLT, Int.reduceBEq, Int.reduceBNe]) ⟨Nat.le_refl _, by simp only; omega, Nat.le_refl _, .inl rfl, .inl rfl⟩ ?_
    rintro ⟨s, r⟩ ⟨g1, g2, g3, g4, g5⟩
    simp only at g1 g2 g3 g4 g5
    by_cases hlt : s < r
    rotate_left
    · have d1 : decide ((s : Int) < (r : Int)) = false := by rw [dlt, decide_eq_false_iff_not]; exact hlt
      have er : r = s := by omega
      subst er
      have we := wS (a := d + m) (b := r) (by omega) (by omega)
      obtain ⟨e, he⟩ : ∃ e, e = d + m - r := ⟨_, rfl⟩
      rw [← he] at we g4
      obtain ⟨s, hs⟩ : ∃ s, s = r := ⟨_, rfl⟩
      rw [← hs] at we g4 g5 d1 ⊢
      have f1 : a ≤ s := by omega
      have f2 : s ≤ m := by omega
      have f3 : m ≤ e := by omega
      have f4 : e ≤ b := by omega
      have f5 : s + (e - m) = d := by omega
      have c1 : a < s → e < b → lt (el l (s - 1)) (el l e) := fun q1 q2 => by
        rcases g4 with g4 | g4
        · omega
        · exact g4
      have c2 : s < m → m < e → lt (el l (e - 1)) (el l s) := fun q1 q2 => by
        rcases g5 with g5 | g5
        · omega
        · rw [show e - 1 = d + m - 1 - s by omega]; exact g5
      obtain ⟨X, hX⟩ : ∃ X, X = rot l s m e := ⟨_, rfl⟩
      obtain ⟨r1, r2, r3, r4, r5, r6⟩ := rot_sorted f1 f2 f3 f4 hb k1 k2 ko
      have xl : X.length = l.length := by rw [hX]; exact rot_len f2 f3 (by omega)
      have xp : X.Perm l := by rw [hX]; exact rot_perm f2 f3
      have ms := fun (Y Z : List Int) => merge_step (l2 := Y) (l3 := Z) hc.sto f1 f2 f3 f4 hb k1 k2 c1 c2
      rw [f5] at r2 r3 r4 r6 ms
      rw [← hX] at r1 r2 r3 r4 r5 r6 ms
      have xn : X.Nodup := xp.nodup_iff.2 hn
      have xD : ∀ x ∈ X, D x := fun x hx => hD x (xp.mem_iff.1 hx)
      obtain ⟨Y, hY⟩ := Srt.exists hc.sto xn (show a ≤ d by omega) (show d ≤ X.length by omega)
      have yl := hY.len
      have yn : Y.Nodup := hY.perm.nodup_iff.2 xn
      have yD : ∀ x ∈ Y, D x := fun x hx => xD x (hY.perm.mem_iff.1 hx)
      have y4 : SortedOn lt Y d e := sorted_congr r4 (fun i q1 q2 => hY.out i (.inr q1))
      have y5 : SortedOn lt Y e b := sorted_congr r5 (fun i q1 q2 => hY.out i (.inr (by omega)))
      have y6 : OrdOn Y d e b := ord_congr r6 (fun i q1 q2 => hY.out i (.inr q1))
      obtain ⟨Z, hZ⟩ := Srt.exists hc.sto yn (show d ≤ b by omega) (show b ≤ Y.length by omega)
      have eZ : Z = l2 := Srt.unique hc.sto (by omega) hb (ms Y Z hY hZ) h1
      subst eZ
      clear ms c1 c2 g4 g5
      simp only [d1, we, AW, reduceAdd, reduceCtorEq, reduceEqDiff, ↓reduceIte, reduceLT, reduceLeDiff, reduceSub, reducePow, reduceMul, reduceToNat, reduceLE, reduceEq, Int.reduceLT, Int.reduceBEq, Int.reduceBNe]
      by_cases hr : s < m ∧ m < e
      · have e1 : decide (((s : Nat) : Int) < ((m : Nat) : Int)) = true := by rw [dlt, decide_eq_true_eq]; exact hr.1
        have e2 : decide (((m : Nat) : Int) < ((e : Nat) : Int)) = true := by rw [dlt, decide_eq_true_eq]; exact hr.2
        simp only [e1, e2, AW, reduceAdd, reduceCtorEq, reduceEqDiff, ↓reduceIte, reduceLT, reduceLeDiff, reduceSub, reducePow, reduceMul, reduceToNat, reduceLE, reduceEq, Int.reduceLT, Int.reduceBEq, Int.reduceBNe]
        refine ops_callM (s := 0) (ver := 0) [] [intP ((s : Nat) : Int), intP ((m : Nat) : Int), intP ((e : Nat) : Int), .clo F [.bx p]] (rotate_m l s m e F [.bx p] hr.1 hr.2 (by omega) (by omega)) (by simp only [intP, AW, reduceAdd, reduceCtorEq, reduceEqDiff, ↓reduceIte, reduceLT, reduceLeDiff, reduceSub, reducePow, reduceMul, reduceToNat, reduceLE, reduceEq, Int.reduceLT, Int.reduceBEq, Int.reduceBNe]) (by simp only [AW, reduceAdd, reduceCtorEq, reduceEqDiff, ↓reduceIte, reduceLT, reduceLeDiff, reduceSub, reducePow, reduceMul, reduceToNat, reduceLE, reduceEq, Int.reduceLT, Int.reduceBEq, Int.reduceBNe]) (by simp only [intP, List.not_mem_nil, AW, reduceAdd, reduceCtorEq, reduceEqDiff, ↓reduceIte, reduceLT, reduceLeDiff, reduceSub, reducePow, reduceMul, reduceToNat, reduceLE, reduceEq, Int.reduceLT, Int.reduceBEq, Int.reduceBNe]) (by simp only [AW, reduceAdd, reduceCtorEq, reduceEqDiff, ↓reduceIte, reduceLT, reduceLeDiff, reduceSub, reducePow, reduceMul, reduceToNat, reduceLE, reduceEq, Int.reduceLT, Int.reduceBEq, Int.reduceBNe]) (by simp only [intP, AW, reduceAdd, reduceCtorEq, reduceEqDiff, ↓reduceIte, reduceLT, reduceLeDiff, reduceSub, reducePow, reduceMul, reduceToNat, reduceLE, reduceEq, Int.reduceLT, Int.reduceBEq, Int.reduceBNe]) ?_; simp only [intP, AW, reduceAdd, reduceCtorEq, reduceEqDiff, ↓reduceIte, reduceLT, reduceLeDiff, reduceSub, reducePow, reduceMul, reduceToNat, reduceLE, reduceEq, Int.reduceLT, Int.reduceBEq, Int.reduceBNe]
        rw [← hX]
        by_cases hu : a < s ∧ s < d
        · have e1 : decide (((a : Nat) : Int) < ((s : Nat) : Int)) = true := by rw [dlt, decide_eq_true_eq]; exact hu.1
          have e2 : decide (((s : Nat) : Int) < ((d : Nat) : Int)) = true := by rw [dlt, decide_eq_true_eq]; exact hu.2
          simp only [e1, e2, AW, reduceAdd, reduceCtorEq, reduceEqDiff, ↓reduceIte, reduceLT, reduceLeDiff, reduceSub, reducePow, reduceMul, reduceToNat, reduceLE, reduceEq, Int.reduceLT, Int.reduceBEq, Int.reduceBNe]
          refine ops_callM (s := 0) (ver := 0) [] [intP ((a : Nat) : Int), intP ((s : Nat) : Int), intP ((d : Nat) : Int), .clo F [.bx p]] (IH (by omega) hu.1 hu.2 (by omega) (by omega) xn r1 r2 r3 xD hY) (by simp only [intP, AW, reduceAdd, reduceCtorEq, reduceEqDiff, ↓reduceIte, reduceLT, reduceLeDiff, reduceSub, reducePow, reduceMul, reduceToNat, reduceLE, reduceEq, Int.reduceLT, Int.reduceBEq, Int.reduceBNe]) (by simp only [AW, reduceAdd, reduceCtorEq, reduceEqDiff, ↓reduceIte, reduceLT, reduceLeDiff, reduceSub, reducePow, reduceMul, reduceToNat, reduceLE, reduceEq, Int.reduceLT, Int.reduceBEq, Int.reduceBNe]) (by simp only [intP, List.not_mem_nil, AW, reduceAdd, reduceCtorEq, reduceEqDiff, ↓reduceIte, reduceLT, reduceLeDiff, reduceSub, reducePow, reduceMul, reduceToNat, reduceLE, reduceEq, Int.reduceLT, Int.reduceBEq, Int.reduceBNe]) (by simp only [AW, reduceAdd, reduceCtorEq, reduceEqDiff, ↓reduceIte, reduceLT, reduceLeDiff, reduceSub, reducePow, reduceMul, reduceToNat, reduceLE, reduceEq, Int.reduceLT, Int.reduceBEq, Int.reduceBNe]) (by simp only [intP, AW, reduceAdd, reduceCtorEq, reduceEqDiff, ↓reduceIte, reduceLT, reduceLeDiff, reduceSub, reducePow, reduceMul, reduceToNat, reduceLE, reduceEq, Int.reduceLT, Int.reduceBEq, Int.reduceBNe]) ?_; simp only [intP, AW, reduceAdd, reduceCtorEq, reduceEqDiff, ↓reduceIte, reduceLT, reduceLeDiff, reduceSub, reducePow, reduceMul, reduceToNat, reduceLE, reduceEq, Int.reduceLT, Int.reduceBEq, Int.reduceBNe]
          by_cases hv : d < e ∧ e < b
          · have e1 : decide (((d : Nat) : Int) < ((e : Nat) : Int)) = true := by rw [dlt, decide_eq_true_eq]; exact hv.1
            have e2 : decide (((e : Nat) : Int) < ((b : Nat) : Int)) = true := by rw [dlt, decide_eq_true_eq]; exact hv.2
            simp only [e1, e2, AW, reduceAdd, reduceCtorEq, reduceEqDiff, ↓reduceIte, reduceLT, reduceLeDiff, reduceSub, reducePow, reduceMul, reduceToNat, reduceLE, reduceEq, Int.reduceLT, Int.reduceBEq, Int.reduceBNe]
            refine ops_callM (s := 0) (ver := 0) [] [intP ((d : Nat) : Int), intP ((e : Nat) : Int), intP ((b : Nat) : Int), .clo F [.bx p]] (IH (by omega) hv.1 hv.2 (by omega) (by omega) yn y4 y5 y6 yD hZ) (by simp only [intP, AW, reduceAdd, reduceCtorEq, reduceEqDiff, ↓reduceIte, reduceLT, reduceLeDiff, reduceSub, reducePow, reduceMul, reduceToNat, reduceLE, reduceEq, Int.reduceLT, Int.reduceBEq, Int.reduceBNe]) (by simp only [AW, reduceAdd, reduceCtorEq, reduceEqDiff, ↓reduceIte, reduceLT, reduceLeDiff, reduceSub, reducePow, reduceMul, reduceToNat, reduceLE, reduceEq, Int.reduceLT, Int.reduceBEq, Int.reduceBNe]) (by simp only [intP, List.not_mem_nil, AW, reduceAdd, reduceCtorEq, reduceEqDiff, ↓reduceIte, reduceLT, reduceLeDiff, reduceSub, reducePow, reduceMul, reduceToNat, reduceLE, reduceEq, Int.reduceLT, Int.reduceBEq, Int.reduceBNe]) (by simp only [AW, reduceAdd, reduceCtorEq, reduceEqDiff, ↓reduceIte, reduceLT, reduceLeDiff, reduceSub, reducePow, reduceMul, reduceToNat, reduceLE, reduceEq, Int.reduceLT, Int.reduceBEq, Int.reduceBNe]) (by simp only [intP, AW, reduceAdd, reduceCtorEq, reduceEqDiff, ↓reduceIte, reduceLT, reduceLeDiff, reduceSub, reducePow, reduceMul, reduceToNat, reduceLE, reduceEq, Int.reduceLT, Int.reduceBEq, Int.reduceBNe]) ?_; simp only [intP, AW, reduceAdd, reduceCtorEq, reduceEqDiff, ↓reduceIte, reduceLT, reduceLeDiff, reduceSub, reducePow, reduceMul, reduceToNat, reduceLE, reduceEq, Int.reduceLT, Int.reduceBEq, Int.reduceBNe]
            (try simp only [run_nil, endM, AW, reduceAdd, reduceCtorEq, reduceEqDiff, ↓reduceIte, reduceLT, reduceLeDiff, reduceSub, reducePow, reduceMul, reduceToNat, reduceLE, reduceEq, Int.reduceLT, Int.reduceBEq, Int.reduceBNe])
          · by_cases e3 : d < e
            · have e1 : decide (((d : Nat) : Int) < ((e : Nat) : Int)) = true := by rw [dlt, decide_eq_true_eq]; exact e3
              have e2 : decide (((e : Nat) : Int) < ((b : Nat) : Int)) = false := by rw [dlt, decide_eq_false_iff_not]; exact fun h => hv ⟨e3, h⟩
              simp only [e1, e2, AW, reduceAdd, reduceCtorEq, reduceEqDiff, ↓reduceIte, reduceLT, reduceLeDiff, reduceSub, reducePow, reduceMul, reduceToNat, reduceLE, reduceEq, Int.reduceLT, Int.reduceBEq, Int.reduceBNe]
              have eZY : Z = Y := Srt.unique hc.sto (by omega) (by omega) hZ (Srt.refl (by
                by_cases h : d < e
                · have : e = b := by omega
                  subst this; exact y4
                · have : e = d := by omega
                  subst this; exact y5))
              simp only [run_nil, endM, eZY, AW, reduceAdd, reduceCtorEq, reduceEqDiff, ↓reduceIte, reduceLT, reduceLeDiff, reduceSub, reducePow, reduceMul, reduceToNat, reduceLE, reduceEq, Int.reduceLT, Int.reduceBEq, Int.reduceBNe]
            · have e1 : decide (((d : Nat) : Int) < ((e : Nat) : Int)) = false := by rw [dlt, decide_eq_false_iff_not]; exact e3
              simp only [e1, AW, reduceAdd, reduceCtorEq, reduceEqDiff, ↓reduceIte, reduceLT, reduceLeDiff, reduceSub, reducePow, reduceMul, reduceToNat, reduceLE, reduceEq, Int.reduceLT, Int.reduceBEq, Int.reduceBNe]
              have eZY : Z = Y := Srt.unique hc.sto (by omega) (by omega) hZ (Srt.refl (by
                by_cases h : d < e
                · have : e = b := by omega
                  subst this; exact y4
                · have : e = d := by omega
                  subst this; exact y5))
              simp only [run_nil, endM, eZY, AW, reduceAdd, reduceCtorEq, reduceEqDiff, ↓reduceIte, reduceLT, reduceLeDiff, reduceSub, reducePow, reduceMul, reduceToNat, reduceLE, reduceEq, Int.reduceLT, Int.reduceBEq, Int.reduceBNe]
        · by_cases e3 : a < s
          · have e1 : decide (((a : Nat) : Int) < ((s : Nat) : Int)) = true := by rw [dlt, decide_eq_true_eq]; exact e3
            have e2 : decide (((s : Nat) : Int) < ((d : Nat) : Int)) = false := by rw [dlt, decide_eq_false_iff_not]; exact fun h => hu ⟨e3, h⟩
            simp only [e1, e2, AW, reduceAdd, reduceCtorEq, reduceEqDiff, ↓reduceIte, reduceLT, reduceLeDiff, reduceSub, reducePow, reduceMul, reduceToNat, reduceLE, reduceEq, Int.reduceLT, Int.reduceBEq, Int.reduceBNe]
            have eYX : Y = X := Srt.unique hc.sto (by omega) (by omega) hY (Srt.refl (by
              by_cases h : a < s
              · have : s = d := by omega
                rw [← this]; exact r1
              · have : s = a := by omega
                rw [this] at r2; exact r2))
            rw [← eYX]
            by_cases hv : d < e ∧ e < b
            · have e1 : decide (((d : Nat) : Int) < ((e : Nat) : Int)) = true := by rw [dlt, decide_eq_true_eq]; exact hv.1
              have e2 : decide (((e : Nat) : Int) < ((b : Nat) : Int)) = true := by rw [dlt, decide_eq_true_eq]; exact hv.2
              simp only [e1, e2, AW, reduceAdd, reduceCtorEq, reduceEqDiff, ↓reduceIte, reduceLT, reduceLeDiff, reduceSub, reducePow, reduceMul, reduceToNat, reduceLE, reduceEq, Int.reduceLT, Int.reduceBEq, Int.reduceBNe]
              refine ops_callM (s := 0) (ver := 0) [] [intP ((d : Nat) : Int), intP ((e : Nat) : Int), intP ((b : Nat) : Int), .clo F [.bx p]] (IH (by omega) hv.1 hv.2 (by omega) (by omega) yn y4 y5 y6 yD hZ) (by simp only [intP, AW, reduceAdd, reduceCtorEq, reduceEqDiff, ↓reduceIte, reduceLT, reduceLeDiff, reduceSub, reducePow, reduceMul, reduceToNat, reduceLE, reduceEq, Int.reduceLT, Int.reduceBEq, Int.reduceBNe]) (by simp only [AW, reduceAdd, reduceCtorEq, reduceEqDiff, ↓reduceIte, reduceLT, reduceLeDiff, reduceSub, reducePow, reduceMul, reduceToNat, reduceLE, reduceEq, Int.reduceLT, Int.reduceBEq, Int.reduceBNe]) (by simp only [intP, List.not_mem_nil, AW, reduceAdd, reduceCtorEq, reduceEqDiff, ↓reduceIte, reduceLT, reduceLeDiff, reduceSub, reducePow, reduceMul, reduceToNat, reduceLE, reduceEq, Int.reduceLT, Int.reduceBEq, Int.reduceBNe]) (by simp only [AW, reduceAdd, reduceCtorEq, reduceEqDiff, ↓reduceIte, reduceLT, reduceLeDiff, reduceSub, reducePow, reduceMul, reduceToNat, reduceLE, reduceEq, Int.reduceLT, Int.reduceBEq, Int.reduceBNe]) (by simp only [intP, AW, reduceAdd, reduceCtorEq, reduceEqDiff, ↓reduceIte, reduceLT, reduceLeDiff, reduceSub, reducePow, reduceMul, reduceToNat, reduceLE, reduceEq, Int.reduceLT, Int.reduceBEq, Int.reduceBNe]) ?_; simp only [intP, AW, reduceAdd, reduceCtorEq, reduceEqDiff, ↓reduceIte, reduceLT, reduceLeDiff, reduceSub, reducePow, reduceMul, reduceToNat, reduceLE, reduceEq, Int.reduceLT, Int.reduceBEq, Int.reduceBNe]
              (try simp only [run_nil, endM, AW, reduceAdd, reduceCtorEq, reduceEqDiff, ↓reduceIte, reduceLT, reduceLeDiff, reduceSub, reducePow, reduceMul, reduceToNat, reduceLE, reduceEq, Int.reduceLT, Int.reduceBEq, Int.reduceBNe])
            · by_cases e3 : d < e
              · have e1 : decide (((d : Nat) : Int) < ((e : Nat) : Int)) = true := by rw [dlt, decide_eq_true_eq]; exact e3
                have e2 : decide (((e : Nat) : Int) < ((b : Nat) : Int)) = false := by rw [dlt, decide_eq_false_iff_not]; exact fun h => hv ⟨e3, h⟩
                simp only [e1, e2, AW, reduceAdd, reduceCtorEq, reduceEqDiff, ↓reduceIte, reduceLT, reduceLeDiff, reduceSub, reducePow, reduceMul, reduceToNat, reduceLE, reduceEq, Int.reduceLT, Int.reduceBEq, Int.reduceBNe]
                have eZY : Z = Y := Srt.unique hc.sto (by omega) (by omega) hZ (Srt.refl (by
                  by_cases h : d < e
                  · have : e = b := by omega
                    subst this; exact y4
                  · have : e = d := by omega
                    subst this; exact y5))
                simp only [run_nil, endM, eZY, AW, reduceAdd, reduceCtorEq, reduceEqDiff, ↓reduceIte, reduceLT, reduceLeDiff, reduceSub, reducePow, reduceMul, reduceToNat, reduceLE, reduceEq, Int.reduceLT, Int.reduceBEq, Int.reduceBNe]
              · have e1 : decide (((d : Nat) : Int) < ((e : Nat) : Int)) = false := by rw [dlt, decide_eq_false_iff_not]; exact e3
                simp only [e1, AW, reduceAdd, reduceCtorEq, reduceEqDiff, ↓reduceIte, reduceLT, reduceLeDiff, reduceSub, reducePow, reduceMul, reduceToNat, reduceLE, reduceEq, Int.reduceLT, Int.reduceBEq, Int.reduceBNe]
                have eZY : Z = Y := Srt.unique hc.sto (by omega) (by omega) hZ (Srt.refl (by
                  by_cases h : d < e
                  · have : e = b := by omega
                    subst this; exact y4
                  · have : e = d := by omega
                    subst this; exact y5))
                simp only [run_nil, endM, eZY, AW, reduceAdd, reduceCtorEq, reduceEqDiff, ↓reduceIte, reduceLT, reduceLeDiff, reduceSub, reducePow, reduceMul, reduceToNat, reduceLE, reduceEq, Int.reduceLT, Int.reduceBEq, Int.reduceBNe]
          · have e1 : decide (((a : Nat) : Int) < ((s : Nat) : Int)) = false := by rw [dlt, decide_eq_false_iff_not]; exact e3
            simp only [e1, AW, reduceAdd, reduceCtorEq, reduceEqDiff, ↓reduceIte, reduceLT, reduceLeDiff, reduceSub, reducePow, reduceMul, reduceToNat, reduceLE, reduceEq, Int.reduceLT, Int.reduceBEq, Int.reduceBNe]
            have eYX : Y = X := Srt.unique hc.sto (by omega) (by omega) hY (Srt.refl (by
              by_cases h : a < s
              · have : s = d := by omega
                rw [← this]; exact r1
              · have : s = a := by omega
                rw [this] at r2; exact r2))
            rw [← eYX]
            by_cases hv : d < e ∧ e < b
            · have e1 : decide (((d : Nat) : Int) < ((e : Nat) : Int)) = true := by rw [dlt, decide_eq_true_eq]; exact hv.1
              have e2 : decide (((e : Nat) : Int) < ((b : Nat) : Int)) = true := by rw [dlt, decide_eq_true_eq]; exact hv.2
              simp only [e1, e2, AW, reduceAdd, reduceCtorEq, reduceEqDiff, ↓reduceIte, reduceLT, reduceLeDiff, reduceSub, reducePow, reduceMul, reduceToNat, reduceLE, reduceEq, Int.reduceLT, Int.reduceBEq, Int.reduceBNe]
              refine ops_callM (s := 0) (ver := 0) [] [intP ((d : Nat) : Int), intP ((e : Nat) : Int), intP ((b : Nat) : Int), .clo F [.bx p]] (IH (by omega) hv.1 hv.2 (by omega) (by omega) yn y4 y5 y6 yD hZ) (by simp only [intP, AW, reduceAdd, reduceCtorEq, reduceEqDiff, ↓reduceIte, reduceLT, reduceLeDiff, reduceSub, reducePow, reduceMul, reduceToNat, reduceLE, reduceEq, Int.reduceLT, Int.reduceBEq, Int.reduceBNe]) (by simp only [AW, reduceAdd, reduceCtorEq, reduceEqDiff, ↓reduceIte, reduceLT, reduceLeDiff, reduceSub, reducePow, reduceMul, reduceToNat, reduceLE, reduceEq, Int.reduceLT, Int.reduceBEq, Int.reduceBNe]) (by simp only [intP, List.not_mem_nil, AW, reduceAdd, reduceCtorEq, reduceEqDiff, ↓reduceIte, reduceLT, reduceLeDiff, reduceSub, reducePow, reduceMul, reduceToNat, reduceLE, reduceEq, Int.reduceLT, Int.reduceBEq, Int.reduceBNe]) (by simp only [AW, reduceAdd, reduceCtorEq, reduceEqDiff, ↓reduceIte, reduceLT, reduceLeDiff, reduceSub, reducePow, reduceMul, reduceToNat, reduceLE, reduceEq, Int.reduceLT, Int.reduceBEq, Int.reduceBNe]) (by simp only [intP, AW, reduceAdd, reduceCtorEq, reduceEqDiff, ↓reduceIte, reduceLT, reduceLeDiff, reduceSub, reducePow, reduceMul, reduceToNat, reduceLE, reduceEq, Int.reduceLT, Int.reduceBEq, Int.reduceBNe]) ?_; simp only [intP, AW, reduceAdd, reduceCtorEq, reduceEqDiff, ↓reduceIte, reduceLT, reduceLeDiff, reduceSub, reducePow, reduceMul, reduceToNat, reduceLE, reduceEq, Int.reduceLT, Int.reduceBEq, Int.reduceBNe]
              (try simp only [run_nil, endM, AW, reduceAdd, reduceCtorEq, reduceEqDiff, ↓reduceIte, reduceLT, reduceLeDiff, reduceSub, reducePow, reduceMul, reduceToNat, reduceLE, reduceEq, Int.reduceLT, Int.reduceBEq, Int.reduceBNe])
            · by_cases e3 : d < e
              · have e1 : decide (((d : Nat) : Int) < ((e : Nat) : Int)) = true := by rw [dlt, decide_eq_true_eq]; exact e3
                have e2 : decide (((e : Nat) : Int) < ((b : Nat) : Int)) = false := by rw [dlt, decide_eq_false_iff_not]; exact fun h => hv ⟨e3, h⟩
                simp only [e1, e2, AW, reduceAdd, reduceCtorEq, reduceEqDiff, ↓reduceIte, reduceLT, reduceLeDiff, reduceSub, reducePow, reduceMul, reduceToNat, reduceLE, reduceEq, Int.reduceLT, Int.reduceBEq, Int.reduceBNe]
                have eZY : Z = Y := Srt.unique hc.sto (by omega) (by omega) hZ (Srt.refl (by
                  by_cases h : d < e
                  · have : e = b := by omega
                    subst this; exact y4
                  · have : e = d := by omega
                    subst this; exact y5))
                simp only [run_nil, endM, eZY, AW, reduceAdd, reduceCtorEq, reduceEqDiff, ↓reduceIte, reduceLT, reduceLeDiff, reduceSub, reducePow, reduceMul, reduceToNat, reduceLE, reduceEq, Int.reduceLT, Int.reduceBEq, Int.reduceBNe]
              · have e1 : decide (((d : Nat) : Int) < ((e : Nat) : Int)) = false := by rw [dlt, decide_eq_false_iff_not]; exact e3
                simp only [e1, AW, reduceAdd, reduceCtorEq, reduceEqDiff, ↓reduceIte, reduceLT, reduceLeDiff, reduceSub, reducePow, reduceMul, reduceToNat, reduceLE, reduceEq, Int.reduceLT, Int.reduceBEq, Int.reduceBNe]
                have eZY : Z = Y := Srt.unique hc.sto (by omega) (by omega) hZ (Srt.refl (by
                  by_cases h : d < e
                  · have : e = b := by omega
                    subst this; exact y4
                  · have : e = d := by omega
                    subst this; exact y5))
                simp only [run_nil, endM, eZY, AW, reduceAdd, reduceCtorEq, reduceEqDiff, ↓reduceIte, reduceLT, reduceLeDiff, reduceSub, reducePow, reduceMul, reduceToNat, reduceLE, reduceEq, Int.reduceLT, Int.reduceBEq, Int.reduceBNe]
      · by_cases e3 : s < m
        · have e1 : decide (((s : Nat) : Int) < ((m : Nat) : Int)) = true := by rw [dlt, decide_eq_true_eq]; exact e3
          have e2 : decide (((m : Nat) : Int) < ((e : Nat) : Int)) = false := by rw [dlt, decide_eq_false_iff_not]; exact fun h => hr ⟨e3, h⟩
          simp only [e1, e2, AW, reduceAdd, reduceCtorEq, reduceEqDiff, ↓reduceIte, reduceLT, reduceLeDiff, reduceSub, reducePow, reduceMul, reduceToNat, reduceLE, reduceEq, Int.reduceLT, Int.reduceBEq, Int.reduceBNe]
          have eX : X = l := by rw [hX]; exact rot_same (by omega) (by omega) (by omega) (by omega)
          rw [← eX]
          by_cases hu : a < s ∧ s < d
          · have e1 : decide (((a : Nat) : Int) < ((s : Nat) : Int)) = true := by rw [dlt, decide_eq_true_eq]; exact hu.1
            have e2 : decide (((s : Nat) : Int) < ((d : Nat) : Int)) = true := by rw [dlt, decide_eq_true_eq]; exact hu.2
            simp only [e1, e2, AW, reduceAdd, reduceCtorEq, reduceEqDiff, ↓reduceIte, reduceLT, reduceLeDiff, reduceSub, reducePow, reduceMul, reduceToNat, reduceLE, reduceEq, Int.reduceLT, Int.reduceBEq, Int.reduceBNe]
            refine ops_callM (s := 0) (ver := 0) [] [intP ((a : Nat) : Int), intP ((s : Nat) : Int), intP ((d : Nat) : Int), .clo F [.bx p]] (IH (by omega) hu.1 hu.2 (by omega) (by omega) xn r1 r2 r3 xD hY) (by simp only [intP, AW, reduceAdd, reduceCtorEq, reduceEqDiff, ↓reduceIte, reduceLT, reduceLeDiff, reduceSub, reducePow, reduceMul, reduceToNat, reduceLE, reduceEq, Int.reduceLT, Int.reduceBEq, Int.reduceBNe]) (by simp only [AW, reduceAdd, reduceCtorEq, reduceEqDiff, ↓reduceIte, reduceLT, reduceLeDiff, reduceSub, reducePow, reduceMul, reduceToNat, reduceLE, reduceEq, Int.reduceLT, Int.reduceBEq, Int.reduceBNe]) (by simp only [intP, List.not_mem_nil, AW, reduceAdd, reduceCtorEq, reduceEqDiff, ↓reduceIte, reduceLT, reduceLeDiff, reduceSub, reducePow, reduceMul, reduceToNat, reduceLE, reduceEq, Int.reduceLT, Int.reduceBEq, Int.reduceBNe]) (by simp only [AW, reduceAdd, reduceCtorEq, reduceEqDiff, ↓reduceIte, reduceLT, reduceLeDiff, reduceSub, reducePow, reduceMul, reduceToNat, reduceLE, reduceEq, Int.reduceLT, Int.reduceBEq, Int.reduceBNe]) (by simp only [intP, AW, reduceAdd, reduceCtorEq, reduceEqDiff, ↓reduceIte, reduceLT, reduceLeDiff, reduceSub, reducePow, reduceMul, reduceToNat, reduceLE, reduceEq, Int.reduceLT, Int.reduceBEq, Int.reduceBNe]) ?_; simp only [intP, AW, reduceAdd, reduceCtorEq, reduceEqDiff, ↓reduceIte, reduceLT, reduceLeDiff, reduceSub, reducePow, reduceMul, reduceToNat, reduceLE, reduceEq, Int.reduceLT, Int.reduceBEq, Int.reduceBNe]
            by_cases hv : d < e ∧ e < b
            · have e1 : decide (((d : Nat) : Int) < ((e : Nat) : Int)) = true := by rw [dlt, decide_eq_true_eq]; exact hv.1
              have e2 : decide (((e : Nat) : Int) < ((b : Nat) : Int)) = true := by rw [dlt, decide_eq_true_eq]; exact hv.2
              simp only [e1, e2, AW, reduceAdd, reduceCtorEq, reduceEqDiff, ↓reduceIte, reduceLT, reduceLeDiff, reduceSub, reducePow, reduceMul, reduceToNat, reduceLE, reduceEq, Int.reduceLT, Int.reduceBEq, Int.reduceBNe]
              refine ops_callM (s := 0) (ver := 0) [] [intP ((d : Nat) : Int), intP ((e : Nat) : Int), intP ((b : Nat) : Int), .clo F [.bx p]] (IH (by omega) hv.1 hv.2 (by omega) (by omega) yn y4 y5 y6 yD hZ) (by simp only [intP, AW, reduceAdd, reduceCtorEq, reduceEqDiff, ↓reduceIte, reduceLT, reduceLeDiff, reduceSub, reducePow, reduceMul, reduceToNat, reduceLE, reduceEq, Int.reduceLT, Int.reduceBEq, Int.reduceBNe]) (by simp only [AW, reduceAdd, reduceCtorEq, reduceEqDiff, ↓reduceIte, reduceLT, reduceLeDiff, reduceSub, reducePow, reduceMul, reduceToNat, reduceLE, reduceEq, Int.reduceLT, Int.reduceBEq, Int.reduceBNe]) (by simp only [intP, List.not_mem_nil, AW, reduceAdd, reduceCtorEq, reduceEqDiff, ↓reduceIte, reduceLT, reduceLeDiff, reduceSub, reducePow, reduceMul, reduceToNat, reduceLE, reduceEq, Int.reduceLT, Int.reduceBEq, Int.reduceBNe]) (by simp only [AW, reduceAdd, reduceCtorEq, reduceEqDiff, ↓reduceIte, reduceLT, reduceLeDiff, reduceSub, reducePow, reduceMul, reduceToNat, reduceLE, reduceEq, Int.reduceLT, Int.reduceBEq, Int.reduceBNe]) (by simp only [intP, AW, reduceAdd, reduceCtorEq, reduceEqDiff, ↓reduceIte, reduceLT, reduceLeDiff, reduceSub, reducePow, reduceMul, reduceToNat, reduceLE, reduceEq, Int.reduceLT, Int.reduceBEq, Int.reduceBNe]) ?_; simp only [intP, AW, reduceAdd, reduceCtorEq, reduceEqDiff, ↓reduceIte, reduceLT, reduceLeDiff, reduceSub, reducePow, reduceMul, reduceToNat, reduceLE, reduceEq, Int.reduceLT, Int.reduceBEq, Int.reduceBNe]
              (try simp only [run_nil, endM, AW, reduceAdd, reduceCtorEq, reduceEqDiff, ↓reduceIte, reduceLT, reduceLeDiff, reduceSub, reducePow, reduceMul, reduceToNat, reduceLE, reduceEq, Int.reduceLT, Int.reduceBEq, Int.reduceBNe])
            · by_cases e3 : d < e
              · have e1 : decide (((d : Nat) : Int) < ((e : Nat) : Int)) = true := by rw [dlt, decide_eq_true_eq]; exact e3
                have e2 : decide (((e : Nat) : Int) < ((b : Nat) : Int)) = false := by rw [dlt, decide_eq_false_iff_not]; exact fun h => hv ⟨e3, h⟩
                simp only [e1, e2, AW, reduceAdd, reduceCtorEq, reduceEqDiff, ↓reduceIte, reduceLT, reduceLeDiff, reduceSub, reducePow, reduceMul, reduceToNat, reduceLE, reduceEq, Int.reduceLT, Int.reduceBEq, Int.reduceBNe]
                have eZY : Z = Y := Srt.unique hc.sto (by omega) (by omega) hZ (Srt.refl (by
                  by_cases h : d < e
                  · have : e = b := by omega
                    subst this; exact y4
                  · have : e = d := by omega
                    subst this; exact y5))
                simp only [run_nil, endM, eZY, AW, reduceAdd, reduceCtorEq, reduceEqDiff, ↓reduceIte, reduceLT, reduceLeDiff, reduceSub, reducePow, reduceMul, reduceToNat, reduceLE, reduceEq, Int.reduceLT, Int.reduceBEq, Int.reduceBNe]
              · have e1 : decide (((d : Nat) : Int) < ((e : Nat) : Int)) = false := by rw [dlt, decide_eq_false_iff_not]; exact e3
                simp only [e1, AW, reduceAdd, reduceCtorEq, reduceEqDiff, ↓reduceIte, reduceLT, reduceLeDiff, reduceSub, reducePow, reduceMul, reduceToNat, reduceLE, reduceEq, Int.reduceLT, Int.reduceBEq, Int.reduceBNe]
                have eZY : Z = Y := Srt.unique hc.sto (by omega) (by omega) hZ (Srt.refl (by
                  by_cases h : d < e
                  · have : e = b := by omega
                    subst this; exact y4
                  · have : e = d := by omega
                    subst this; exact y5))
                simp only [run_nil, endM, eZY, AW, reduceAdd, reduceCtorEq, reduceEqDiff, ↓reduceIte, reduceLT, reduceLeDiff, reduceSub, reducePow, reduceMul, reduceToNat, reduceLE, reduceEq, Int.reduceLT, Int.reduceBEq, Int.reduceBNe]
          · by_cases e3 : a < s
            · have e1 : decide (((a : Nat) : Int) < ((s : Nat) : Int)) = true := by rw [dlt, decide_eq_true_eq]; exact e3
              have e2 : decide (((s : Nat) : Int) < ((d : Nat) : Int)) = false := by rw [dlt, decide_eq_false_iff_not]; exact fun h => hu ⟨e3, h⟩
              simp only [e1, e2, AW, reduceAdd, reduceCtorEq, reduceEqDiff, ↓reduceIte, reduceLT, reduceLeDiff, reduceSub, reducePow, reduceMul, reduceToNat, reduceLE, reduceEq, Int.reduceLT, Int.reduceBEq, Int.reduceBNe]
              have eYX : Y = X := Srt.unique hc.sto (by omega) (by omega) hY (Srt.refl (by
                by_cases h : a < s
                · have : s = d := by omega
                  rw [← this]; exact r1
                · have : s = a := by omega
                  rw [this] at r2; exact r2))
              rw [← eYX]
              by_cases hv : d < e ∧ e < b
              · have e1 : decide (((d : Nat) : Int) < ((e : Nat) : Int)) = true := by rw [dlt, decide_eq_true_eq]; exact hv.1
                have e2 : decide (((e : Nat) : Int) < ((b : Nat) : Int)) = true := by rw [dlt, decide_eq_true_eq]; exact hv.2
                simp only [e1, e2, AW, reduceAdd, reduceCtorEq, reduceEqDiff, ↓reduceIte, reduceLT, reduceLeDiff, reduceSub, reducePow, reduceMul, reduceToNat, reduceLE, reduceEq, Int.reduceLT, Int.reduceBEq, Int.reduceBNe]
                refine ops_callM (s := 0) (ver := 0) [] [intP ((d : Nat) : Int), intP ((e : Nat) : Int), intP ((b : Nat) : Int), .clo F [.bx p]] (IH (by omega) hv.1 hv.2 (by omega) (by omega) yn y4 y5 y6 yD hZ) (by simp only [intP, AW, reduceAdd, reduceCtorEq, reduceEqDiff, ↓reduceIte, reduceLT, reduceLeDiff, reduceSub, reducePow, reduceMul, reduceToNat, reduceLE, reduceEq, Int.reduceLT, Int.reduceBEq, Int.reduceBNe]) (by simp only [AW, reduceAdd, reduceCtorEq, reduceEqDiff, ↓reduceIte, reduceLT, reduceLeDiff, reduceSub, reducePow, reduceMul, reduceToNat, reduceLE, reduceEq, Int.reduceLT, Int.reduceBEq, Int.reduceBNe]) (by simp only [intP, List.not_mem_nil, AW, reduceAdd, reduceCtorEq, reduceEqDiff, ↓reduceIte, reduceLT, reduceLeDiff, reduceSub, reducePow, reduceMul, reduceToNat, reduceLE, reduceEq, Int.reduceLT, Int.reduceBEq, Int.reduceBNe]) (by simp only [AW, reduceAdd, reduceCtorEq, reduceEqDiff, ↓reduceIte, reduceLT, reduceLeDiff, reduceSub, reducePow, reduceMul, reduceToNat, reduceLE, reduceEq, Int.reduceLT, Int.reduceBEq, Int.reduceBNe]) (by simp only [intP, AW, reduceAdd, reduceCtorEq, reduceEqDiff, ↓reduceIte, reduceLT, reduceLeDiff, reduceSub, reducePow, reduceMul, reduceToNat, reduceLE, reduceEq, Int.reduceLT, Int.reduceBEq, Int.reduceBNe]) ?_; simp only [intP, AW, reduceAdd, reduceCtorEq, reduceEqDiff, ↓reduceIte, reduceLT, reduceLeDiff, reduceSub, reducePow, reduceMul, reduceToNat, reduceLE, reduceEq, Int.reduceLT, Int.reduceBEq, Int.reduceBNe]
                (try simp only [run_nil, endM, AW, reduceAdd, reduceCtorEq, reduceEqDiff, ↓reduceIte, reduceLT, reduceLeDiff, reduceSub, reducePow, reduceMul, reduceToNat, reduceLE, reduceEq, Int.reduceLT, Int.reduceBEq, Int.reduceBNe])
              · by_cases e3 : d < e
                · have e1 : decide (((d : Nat) : Int) < ((e : Nat) : Int)) = true := by rw [dlt, decide_eq_true_eq]; exact e3
                  have e2 : decide (((e : Nat) : Int) < ((b : Nat) : Int)) = false := by rw [dlt, decide_eq_false_iff_not]; exact fun h => hv ⟨e3, h⟩
                  simp only [e1, e2, AW, reduceAdd, reduceCtorEq, reduceEqDiff, ↓reduceIte, reduceLT, reduceLeDiff, reduceSub, reducePow, reduceMul, reduceToNat, reduceLE, reduceEq, Int.reduceLT, Int.reduceBEq, Int.reduceBNe]
                  have eZY : Z = Y := Srt.unique hc.sto (by omega) (by omega) hZ (Srt.refl (by
                    by_cases h : d < e
                    · have : e = b := by omega
                      subst this; exact y4
                    · have : e = d := by omega
                      subst this; exact y5))
                  simp only [run_nil, endM, eZY, AW, reduceAdd, reduceCtorEq, reduceEqDiff, ↓reduceIte, reduceLT, reduceLeDiff, reduceSub, reducePow, reduceMul, reduceToNat, reduceLE, reduceEq, Int.reduceLT, Int.reduceBEq, Int.reduceBNe]
                · have e1 : decide (((d : Nat) : Int) < ((e : Nat) : Int)) = false := by rw [dlt, decide_eq_false_iff_not]; exact e3
                  simp only [e1, AW, reduceAdd, reduceCtorEq, reduceEqDiff, ↓reduceIte, reduceLT, reduceLeDiff, reduceSub, reducePow, reduceMul, reduceToNat, reduceLE, reduceEq, Int.reduceLT, Int.reduceBEq, Int.reduceBNe]
                  have eZY : Z = Y := Srt.unique hc.sto (by omega) (by omega) hZ (Srt.refl (by
                    by_cases h : d < e
                    · have : e = b := by omega
                      subst this; exact y4
                    · have : e = d := by omega
                      subst this; exact y5))
                  simp only [run_nil, endM, eZY, AW, reduceAdd, reduceCtorEq, reduceEqDiff, ↓reduceIte, reduceLT, reduceLeDiff, reduceSub, reducePow, reduceMul, reduceToNat, reduceLE, reduceEq, Int.reduceLT, Int.reduceBEq, Int.reduceBNe]
            · have e1 : decide (((a : Nat) : Int) < ((s : Nat) : Int)) = false := by rw [dlt, decide_eq_false_iff_not]; exact e3
              simp only [e1, AW, reduceAdd, reduceCtorEq, reduceEqDiff, ↓reduceIte, reduceLT, reduceLeDiff, reduceSub, reducePow, reduceMul, reduceToNat, reduceLE, reduceEq, Int.reduceLT, Int.reduceBEq, Int.reduceBNe]
              have eYX : Y = X := Srt.unique hc.sto (by omega) (by omega) hY (Srt.refl (by
                by_cases h : a < s
                · have : s = d := by omega
                  rw [← this]; exact r1
                · have : s = a := by omega
                  rw [this] at r2; exact r2))
              rw [← eYX]
              by_cases hv : d < e ∧ e < b
              · have e1 : decide (((d : Nat) : Int) < ((e : Nat) : Int)) = true := by rw [dlt, decide_eq_true_eq]; exact hv.1
                have e2 : decide (((e : Nat) : Int) < ((b : Nat) : Int)) = true := by rw [dlt, decide_eq_true_eq]; exact hv.2
                simp only [e1, e2, AW, reduceAdd, reduceCtorEq, reduceEqDiff, ↓reduceIte, reduceLT, reduceLeDiff, reduceSub, reducePow, reduceMul, reduceToNat, reduceLE, reduceEq, Int.reduceLT, Int.reduceBEq, Int.reduceBNe]
                refine ops_callM (s := 0) (ver := 0) [] [intP ((d : Nat) : Int), intP ((e : Nat) : Int), intP ((b : Nat) : Int), .clo F [.bx p]] (IH (by omega) hv.1 hv.2 (by omega) (by omega) yn y4 y5 y6 yD hZ) (by simp only [intP, AW, reduceAdd, reduceCtorEq, reduceEqDiff, ↓reduceIte, reduceLT, reduceLeDiff, reduceSub, reducePow, reduceMul, reduceToNat, reduceLE, reduceEq, Int.reduceLT, Int.reduceBEq, Int.reduceBNe]) (by simp only [AW, reduceAdd, reduceCtorEq, reduceEqDiff, ↓reduceIte, reduceLT, reduceLeDiff, reduceSub, reducePow, reduceMul, reduceToNat, reduceLE, reduceEq, Int.reduceLT, Int.reduceBEq, Int.reduceBNe]) (by simp only [intP, List.not_mem_nil, AW, reduceAdd, reduceCtorEq, reduceEqDiff, ↓reduceIte, reduceLT, reduceLeDiff, reduceSub, reducePow, reduceMul, reduceToNat, reduceLE, reduceEq, Int.reduceLT, Int.reduceBEq, Int.reduceBNe]) (by simp only [AW, reduceAdd, reduceCtorEq, reduceEqDiff, ↓reduceIte, reduceLT, reduceLeDiff, reduceSub, reducePow, reduceMul, reduceToNat, reduceLE, reduceEq, Int.reduceLT, Int.reduceBEq, Int.reduceBNe]) (by simp only [intP, AW, reduceAdd, reduceCtorEq, reduceEqDiff, ↓reduceIte, reduceLT, reduceLeDiff, reduceSub, reducePow, reduceMul, reduceToNat, reduceLE, reduceEq, Int.reduceLT, Int.reduceBEq, Int.reduceBNe]) ?_; simp only [intP, AW, reduceAdd, reduceCtorEq, reduceEqDiff, ↓reduceIte, reduceLT, reduceLeDiff, reduceSub, reducePow, reduceMul, reduceToNat, reduceLE, reduceEq, Int.reduceLT, Int.reduceBEq, Int.reduceBNe]
                (try simp only [run_nil, endM, AW, reduceAdd, reduceCtorEq, reduceEqDiff, ↓reduceIte, reduceLT, reduceLeDiff, reduceSub, reducePow, reduceMul, reduceToNat, reduceLE, reduceEq, Int.reduceLT, Int.reduceBEq, Int.reduceBNe])
              · by_cases e3 : d < e
                · have e1 : decide (((d : Nat) : Int) < ((e : Nat) : Int)) = true := by rw [dlt, decide_eq_true_eq]; exact e3
                  have e2 : decide (((e : Nat) : Int) < ((b : Nat) : Int)) = false := by rw [dlt, decide_eq_false_iff_not]; exact fun h => hv ⟨e3, h⟩
                  simp only [e1, e2, AW, reduceAdd, reduceCtorEq, reduceEqDiff, ↓reduceIte, reduceLT, reduceLeDiff, reduceSub, reducePow, reduceMul, reduceToNat, reduceLE, reduceEq, Int.reduceLT, Int.reduceBEq, Int.reduceBNe]
                  have eZY : Z = Y := Srt.unique hc.sto (by omega) (by omega) hZ (Srt.refl (by
                    by_cases h : d < e
                    · have : e = b := by omega
                      subst this; exact y4
                    · have : e = d := by omega
                      subst this; exact y5))
                  simp only [run_nil, endM, eZY, AW, reduceAdd, reduceCtorEq, reduceEqDiff, ↓reduceIte, reduceLT, reduceLeDiff, reduceSub, reducePow, reduceMul, reduceToNat, reduceLE, reduceEq, Int.reduceLT, Int.reduceBEq, Int.reduceBNe]
                · have e1 : decide (((d : Nat) : Int) < ((e : Nat) : Int)) = false := by rw [dlt, decide_eq_false_iff_not]; exact e3
                  simp only [e1, AW, reduceAdd, reduceCtorEq, reduceEqDiff, ↓reduceIte, reduceLT, reduceLeDiff, reduceSub, reducePow, reduceMul, reduceToNat, reduceLE, reduceEq, Int.reduceLT, Int.reduceBEq, Int.reduceBNe]
                  have eZY : Z = Y := Srt.unique hc.sto (by omega) (by omega) hZ (Srt.refl (by
                    by_cases h : d < e
                    · have : e = b := by omega
                      subst this; exact y4
                    · have : e = d := by omega
                      subst this; exact y5))
                  simp only [run_nil, endM, eZY, AW, reduceAdd, reduceCtorEq, reduceEqDiff, ↓reduceIte, reduceLT, reduceLeDiff, reduceSub, reducePow, reduceMul, reduceToNat, reduceLE, reduceEq, Int.reduceLT, Int.reduceBEq, Int.reduceBNe]
        · have e1 : decide (((s : Nat) : Int) < ((m : Nat) : Int)) = false := by rw [dlt, decide_eq_false_iff_not]; exact e3
          simp only [e1, AW, reduceAdd, reduceCtorEq, reduceEqDiff, ↓reduceIte, reduceLT, reduceLeDiff, reduceSub, reducePow, reduceMul, reduceToNat, reduceLE, reduceEq, Int.reduceLT, Int.reduceBEq, Int.reduceBNe]
          have eX : X = l := by rw [hX]; exact rot_same (by omega) (by omega) (by omega) (by omega)
          rw [← eX]
          by_cases hu : a < s ∧ s < d
          · have e1 : decide (((a : Nat) : Int) < ((s : Nat) : Int)) = true := by rw [dlt, decide_eq_true_eq]; exact hu.1
            have e2 : decide (((s : Nat) : Int) < ((d : Nat) : Int)) = true := by rw [dlt, decide_eq_true_eq]; exact hu.2
            simp only [e1, e2, AW, reduceAdd, reduceCtorEq, reduceEqDiff, ↓reduceIte, reduceLT, reduceLeDiff, reduceSub, reducePow, reduceMul, reduceToNat, reduceLE, reduceEq, Int.reduceLT, Int.reduceBEq, Int.reduceBNe]
            refine ops_callM (s := 0) (ver := 0) [] [intP ((a : Nat) : Int), intP ((s : Nat) : Int), intP ((d : Nat) : Int), .clo F [.bx p]] (IH (by omega) hu.1 hu.2 (by omega) (by omega) xn r1 r2 r3 xD hY) (by simp only [intP, AW, reduceAdd, reduceCtorEq, reduceEqDiff, ↓reduceIte, reduceLT, reduceLeDiff, reduceSub, reducePow, reduceMul, reduceToNat, reduceLE, reduceEq, Int.reduceLT, Int.reduceBEq, Int.reduceBNe]) (by simp only [AW, reduceAdd, reduceCtorEq, reduceEqDiff, ↓reduceIte, reduceLT, reduceLeDiff, reduceSub, reducePow, reduceMul, reduceToNat, reduceLE, reduceEq, Int.reduceLT, Int.reduceBEq, Int.reduceBNe]) (by simp only [intP, List.not_mem_nil, AW, reduceAdd, reduceCtorEq, reduceEqDiff, ↓reduceIte, reduceLT, reduceLeDiff, reduceSub, reducePow, reduceMul, reduceToNat, reduceLE, reduceEq, Int.reduceLT, Int.reduceBEq, Int.reduceBNe]) (by simp only [AW, reduceAdd, reduceCtorEq, reduceEqDiff, ↓reduceIte, reduceLT, reduceLeDiff, reduceSub, reducePow, reduceMul, reduceToNat, reduceLE, reduceEq, Int.reduceLT, Int.reduceBEq, Int.reduceBNe]) (by simp only [intP, AW, reduceAdd, reduceCtorEq, reduceEqDiff, ↓reduceIte, reduceLT, reduceLeDiff, reduceSub, reducePow, reduceMul, reduceToNat, reduceLE, reduceEq, Int.reduceLT, Int.reduceBEq, Int.reduceBNe]) ?_; simp only [intP, AW, reduceAdd, reduceCtorEq, reduceEqDiff, ↓reduceIte, reduceLT, reduceLeDiff, reduceSub, reducePow, reduceMul, reduceToNat, reduceLE, reduceEq, Int.reduceLT, Int.reduceBEq, Int.reduceBNe]
            by_cases hv : d < e ∧ e < b
            · have e1 : decide (((d : Nat) : Int) < ((e : Nat) : Int)) = true := by rw [dlt, decide_eq_true_eq]; exact hv.1
              have e2 : decide (((e : Nat) : Int) < ((b : Nat) : Int)) = true := by rw [dlt, decide_eq_true_eq]; exact hv.2
              simp only [e1, e2, AW, reduceAdd, reduceCtorEq, reduceEqDiff, ↓reduceIte, reduceLT, reduceLeDiff, reduceSub, reducePow, reduceMul, reduceToNat, reduceLE, reduceEq, Int.reduceLT, Int.reduceBEq, Int.reduceBNe]
              refine ops_callM (s := 0) (ver := 0) [] [intP ((d : Nat) : Int), intP ((e : Nat) : Int), intP ((b : Nat) : Int), .clo F [.bx p]] (IH (by omega) hv.1 hv.2 (by omega) (by omega) yn y4 y5 y6 yD hZ) (by simp only [intP, AW, reduceAdd, reduceCtorEq, reduceEqDiff, ↓reduceIte, reduceLT, reduceLeDiff, reduceSub, reducePow, reduceMul, reduceToNat, reduceLE, reduceEq, Int.reduceLT, Int.reduceBEq, Int.reduceBNe]) (by simp only [AW, reduceAdd, reduceCtorEq, reduceEqDiff, ↓reduceIte, reduceLT, reduceLeDiff, reduceSub, reducePow, reduceMul, reduceToNat, reduceLE, reduceEq, Int.reduceLT, Int.reduceBEq, Int.reduceBNe]) (by simp only [intP, List.not_mem_nil, AW, reduceAdd, reduceCtorEq, reduceEqDiff, ↓reduceIte, reduceLT, reduceLeDiff, reduceSub, reducePow, reduceMul, reduceToNat, reduceLE, reduceEq, Int.reduceLT, Int.reduceBEq, Int.reduceBNe]) (by simp only [AW, reduceAdd, reduceCtorEq, reduceEqDiff, ↓reduceIte, reduceLT, reduceLeDiff, reduceSub, reducePow, reduceMul, reduceToNat, reduceLE, reduceEq, Int.reduceLT, Int.reduceBEq, Int.reduceBNe]) (by simp only [intP, AW, reduceAdd, reduceCtorEq, reduceEqDiff, ↓reduceIte, reduceLT, reduceLeDiff, reduceSub, reducePow, reduceMul, reduceToNat, reduceLE, reduceEq, Int.reduceLT, Int.reduceBEq, Int.reduceBNe]) ?_; simp only [intP, AW, reduceAdd, reduceCtorEq, reduceEqDiff, ↓reduceIte, reduceLT, reduceLeDiff, reduceSub, reducePow, reduceMul, reduceToNat, reduceLE, reduceEq, Int.reduceLT, Int.reduceBEq, Int.reduceBNe]
              (try simp only [run_nil, endM, AW, reduceAdd, reduceCtorEq, reduceEqDiff, ↓reduceIte, reduceLT, reduceLeDiff, reduceSub, reducePow, reduceMul, reduceToNat, reduceLE, reduceEq, Int.reduceLT, Int.reduceBEq, Int.reduceBNe])
            · by_cases e3 : d < e
              · have e1 : decide (((d : Nat) : Int) < ((e : Nat) : Int)) = true := by rw [dlt, decide_eq_true_eq]; exact e3
                have e2 : decide (((e : Nat) : Int) < ((b : Nat) : Int)) = false := by rw [dlt, decide_eq_false_iff_not]; exact fun h => hv ⟨e3, h⟩
                simp only [e1, e2, AW, reduceAdd, reduceCtorEq, reduceEqDiff, ↓reduceIte, reduceLT, reduceLeDiff, reduceSub, reducePow, reduceMul, reduceToNat, reduceLE, reduceEq, Int.reduceLT, Int.reduceBEq, Int.reduceBNe]
                have eZY : Z = Y := Srt.unique hc.sto (by omega) (by omega) hZ (Srt.refl (by
                  by_cases h : d < e
                  · have : e = b := by omega
                    subst this; exact y4
                  · have : e = d := by omega
                    subst this; exact y5))
                simp only [run_nil, endM, eZY, AW, reduceAdd, reduceCtorEq, reduceEqDiff, ↓reduceIte, reduceLT, reduceLeDiff, reduceSub, reducePow, reduceMul, reduceToNat, reduceLE, reduceEq, Int.reduceLT, Int.reduceBEq, Int.reduceBNe]
              · have e1 : decide (((d : Nat) : Int) < ((e : Nat) : Int)) = false := by rw [dlt, decide_eq_false_iff_not]; exact e3
                simp only [e1, AW, reduceAdd, reduceCtorEq, reduceEqDiff, ↓reduceIte, reduceLT, reduceLeDiff, reduceSub, reducePow, reduceMul, reduceToNat, reduceLE, reduceEq, Int.reduceLT, Int.reduceBEq, Int.reduceBNe]
                have eZY : Z = Y := Srt.unique hc.sto (by omega) (by omega) hZ (Srt.refl (by
                  by_cases h : d < e
                  · have : e = b := by omega
                    subst this; exact y4
                  · have : e = d := by omega
                    subst this; exact y5))
                simp only [run_nil, endM, eZY, AW, reduceAdd, reduceCtorEq, reduceEqDiff, ↓reduceIte, reduceLT, reduceLeDiff, reduceSub, reducePow, reduceMul, reduceToNat, reduceLE, reduceEq, Int.reduceLT, Int.reduceBEq, Int.reduceBNe]
          · by_cases e3 : a < s
            · have e1 : decide (((a : Nat) : Int) < ((s : Nat) : Int)) = true := by rw [dlt, decide_eq_true_eq]; exact e3
              have e2 : decide (((s : Nat) : Int) < ((d : Nat) : Int)) = false := by rw [dlt, decide_eq_false_iff_not]; exact fun h => hu ⟨e3, h⟩
              simp only [e1, e2, AW, reduceAdd, reduceCtorEq, reduceEqDiff, ↓reduceIte, reduceLT, reduceLeDiff, reduceSub, reducePow, reduceMul, reduceToNat, reduceLE, reduceEq, Int.reduceLT, Int.reduceBEq, Int.reduceBNe]
              have eYX : Y = X := Srt.unique hc.sto (by omega) (by omega) hY (Srt.refl (by
                by_cases h : a < s
                · have : s = d := by omega
                  rw [← this]; exact r1
                · have : s = a := by omega
                  rw [this] at r2; exact r2))
              rw [← eYX]
              by_cases hv : d < e ∧ e < b
              · have e1 : decide (((d : Nat) : Int) < ((e : Nat) : Int)) = true := by rw [dlt, decide_eq_true_eq]; exact hv.1
                have e2 : decide (((e : Nat) : Int) < ((b : Nat) : Int)) = true := by rw [dlt, decide_eq_true_eq]; exact hv.2
                simp only [e1, e2, AW, reduceAdd, reduceCtorEq, reduceEqDiff, ↓reduceIte, reduceLT, reduceLeDiff, reduceSub, reducePow, reduceMul, reduceToNat, reduceLE, reduceEq, Int.reduceLT, Int.reduceBEq, Int.reduceBNe]
                refine ops_callM (s := 0) (ver := 0) [] [intP ((d : Nat) : Int), intP ((e : Nat) : Int), intP ((b : Nat) : Int), .clo F [.bx p]] (IH (by omega) hv.1 hv.2 (by omega) (by omega) yn y4 y5 y6 yD hZ) (by simp only [intP, AW, reduceAdd, reduceCtorEq, reduceEqDiff, ↓reduceIte, reduceLT, reduceLeDiff, reduceSub, reducePow, reduceMul, reduceToNat, reduceLE, reduceEq, Int.reduceLT, Int.reduceBEq, Int.reduceBNe]) (by simp only [AW, reduceAdd, reduceCtorEq, reduceEqDiff, ↓reduceIte, reduceLT, reduceLeDiff, reduceSub, reducePow, reduceMul, reduceToNat, reduceLE, reduceEq, Int.reduceLT, Int.reduceBEq, Int.reduceBNe]) (by simp only [intP, List.not_mem_nil, AW, reduceAdd, reduceCtorEq, reduceEqDiff, ↓reduceIte, reduceLT, reduceLeDiff, reduceSub, reducePow, reduceMul, reduceToNat, reduceLE, reduceEq, Int.reduceLT, Int.reduceBEq, Int.reduceBNe]) (by simp only [AW, reduceAdd, reduceCtorEq, reduceEqDiff, ↓reduceIte, reduceLT, reduceLeDiff, reduceSub, reducePow, reduceMul, reduceToNat, reduceLE, reduceEq, Int.reduceLT, Int.reduceBEq, Int.reduceBNe]) (by simp only [intP, AW, reduceAdd, reduceCtorEq, reduceEqDiff, ↓reduceIte, reduceLT, reduceLeDiff, reduceSub, reducePow, reduceMul, reduceToNat, reduceLE, reduceEq, Int.reduceLT, Int.reduceBEq, Int.reduceBNe]) ?_; simp only [intP, AW, reduceAdd, reduceCtorEq, reduceEqDiff, ↓reduceIte, reduceLT, reduceLeDiff, reduceSub, reducePow, reduceMul, reduceToNat, reduceLE, reduceEq, Int.reduceLT, Int.reduceBEq, Int.reduceBNe]
                (try simp only [run_nil, endM, AW, reduceAdd, reduceCtorEq, reduceEqDiff, ↓reduceIte, reduceLT, reduceLeDiff, reduceSub, reducePow, reduceMul, reduceToNat, reduceLE, reduceEq, Int.reduceLT, Int.reduceBEq, Int.reduceBNe])
              · by_cases e3 : d < e
                · have e1 : decide (((d : Nat) : Int) < ((e : Nat) : Int)) = true := by rw [dlt, decide_eq_true_eq]; exact e3
                  have e2 : decide (((e : Nat) : Int) < ((b : Nat) : Int)) = false := by rw [dlt, decide_eq_false_iff_not]; exact fun h => hv ⟨e3, h⟩
                  simp only [e1, e2, AW, reduceAdd, reduceCtorEq, reduceEqDiff, ↓reduceIte, reduceLT, reduceLeDiff, reduceSub, reducePow, reduceMul, reduceToNat, reduceLE, reduceEq, Int.reduceLT, Int.reduceBEq, Int.reduceBNe]
                  have eZY : Z = Y := Srt.unique hc.sto (by omega) (by omega) hZ (Srt.refl (by
                    by_cases h : d < e
                    · have : e = b := by omega
                      subst this; exact y4
                    · have : e = d := by omega
                      subst this; exact y5))
                  simp only [run_nil, endM, eZY, AW, reduceAdd, reduceCtorEq, reduceEqDiff, ↓reduceIte, reduceLT, reduceLeDiff, reduceSub, reducePow, reduceMul, reduceToNat, reduceLE, reduceEq, Int.reduceLT, Int.reduceBEq, Int.reduceBNe]
                · have e1 : decide (((d : Nat) : Int) < ((e : Nat) : Int)) = false := by rw [dlt, decide_eq_false_iff_not]; exact e3
                  simp only [e1, AW, reduceAdd, reduceCtorEq, reduceEqDiff, ↓reduceIte, reduceLT, reduceLeDiff, reduceSub, reducePow, reduceMul, reduceToNat, reduceLE, reduceEq, Int.reduceLT, Int.reduceBEq, Int.reduceBNe]
                  have eZY : Z = Y := Srt.unique hc.sto (by omega) (by omega) hZ (Srt.refl (by
                    by_cases h : d < e
                    · have : e = b := by omega
                      subst this; exact y4
                    · have : e = d := by omega
                      subst this; exact y5))
                  simp only [run_nil, endM, eZY, AW, reduceAdd, reduceCtorEq, reduceEqDiff, ↓reduceIte, reduceLT, reduceLeDiff, reduceSub, reducePow, reduceMul, reduceToNat, reduceLE, reduceEq, Int.reduceLT, Int.reduceBEq, Int.reduceBNe]
            · have e1 : decide (((a : Nat) : Int) < ((s : Nat) : Int)) = false := by rw [dlt, decide_eq_false_iff_not]; exact e3
              simp only [e1, AW, reduceAdd, reduceCtorEq, reduceEqDiff, ↓reduceIte, reduceLT, reduceLeDiff, reduceSub, reducePow, reduceMul, reduceToNat, reduceLE, reduceEq, Int.reduceLT, Int.reduceBEq, Int.reduceBNe]
              have eYX : Y = X := Srt.unique hc.sto (by omega) (by omega) hY (Srt.refl (by
                by_cases h : a < s
                · have : s = d := by omega
                  rw [← this]; exact r1
                · have : s = a := by omega
                  rw [this] at r2; exact r2))
              rw [← eYX]
              by_cases hv : d < e ∧ e < b
              · have e1 : decide (((d : Nat) : Int) < ((e : Nat) : Int)) = true := by rw [dlt, decide_eq_true_eq]; exact hv.1
                have e2 : decide (((e : Nat) : Int) < ((b : Nat) : Int)) = true := by rw [dlt, decide_eq_true_eq]; exact hv.2
                simp only [e1, e2, AW, reduceAdd, reduceCtorEq, reduceEqDiff, ↓reduceIte, reduceLT, reduceLeDiff, reduceSub, reducePow, reduceMul, reduceToNat, reduceLE, reduceEq, Int.reduceLT, Int.reduceBEq, Int.reduceBNe]
                refine ops_callM (s := 0) (ver := 0) [] [intP ((d : Nat) : Int), intP ((e : Nat) : Int), intP ((b : Nat) : Int), .clo F [.bx p]] (IH (by omega) hv.1 hv.2 (by omega) (by omega) yn y4 y5 y6 yD hZ) (by simp only [intP, AW, reduceAdd, reduceCtorEq, reduceEqDiff, ↓reduceIte, reduceLT, reduceLeDiff, reduceSub, reducePow, reduceMul, reduceToNat, reduceLE, reduceEq, Int.reduceLT, Int.reduceBEq, Int.reduceBNe]) (by simp only [AW, reduceAdd, reduceCtorEq, reduceEqDiff, ↓reduceIte, reduceLT, reduceLeDiff, reduceSub, reducePow, reduceMul, reduceToNat, reduceLE, reduceEq, Int.reduceLT, Int.reduceBEq, Int.reduceBNe]) (by simp only [intP, List.not_mem_nil, AW, reduceAdd, reduceCtorEq, reduceEqDiff, ↓reduceIte, reduceLT, reduceLeDiff, reduceSub, reducePow, reduceMul, reduceToNat, reduceLE, reduceEq, Int.reduceLT, Int.reduceBEq, Int.reduceBNe]) (by simp only [AW, reduceAdd, reduceCtorEq, reduceEqDiff, ↓reduceIte, reduceLT, reduceLeDiff, reduceSub, reducePow, reduceMul, reduceToNat, reduceLE, reduceEq, Int.reduceLT, Int.reduceBEq, Int.reduceBNe]) (by simp only [intP, AW, reduceAdd, reduceCtorEq, reduceEqDiff, ↓reduceIte, reduceLT, reduceLeDiff, reduceSub, reducePow, reduceMul, reduceToNat, reduceLE, reduceEq, Int.reduceLT, Int.reduceBEq, Int.reduceBNe]) ?_; simp only [intP, AW, reduceAdd, reduceCtorEq, reduceEqDiff, ↓reduceIte, reduceLT, reduceLeDiff, reduceSub, reducePow, reduceMul, reduceToNat, reduceLE, reduceEq, Int.reduceLT, Int.reduceBEq, Int.reduceBNe]
                (try simp only [run_nil, endM, AW, reduceAdd, reduceCtorEq, reduceEqDiff, ↓reduceIte, reduceLT, reduceLeDiff, reduceSub, reducePow, reduceMul, reduceToNat, reduceLE, reduceEq, Int.reduceLT, Int.reduceBEq, Int.reduceBNe])
              · by_cases e3 : d < e
                · have e1 : decide (((d : Nat) : Int) < ((e : Nat) : Int)) = true := by rw [dlt, decide_eq_true_eq]; exact e3
                  have e2 : decide (((e : Nat) : Int) < ((b : Nat) : Int)) = false := by rw [dlt, decide_eq_false_iff_not]; exact fun h => hv ⟨e3, h⟩
                  simp only [e1, e2, AW, reduceAdd, reduceCtorEq, reduceEqDiff, ↓reduceIte, reduceLT, reduceLeDiff, reduceSub, reducePow, reduceMul, reduceToNat, reduceLE, reduceEq, Int.reduceLT, Int.reduceBEq, Int.reduceBNe]
                  have eZY : Z = Y := Srt.unique hc.sto (by omega) (by omega) hZ (Srt.refl (by
                    by_cases h : d < e
                    · have : e = b := by omega
                      subst this; exact y4
                    · have : e = d := by omega
                      subst this; exact y5))
                  simp only [run_nil, endM, eZY, AW, reduceAdd, reduceCtorEq, reduceEqDiff, ↓reduceIte, reduceLT, reduceLeDiff, reduceSub, reducePow, reduceMul, reduceToNat, reduceLE, reduceEq, Int.reduceLT, Int.reduceBEq, Int.reduceBNe]
                · have e1 : decide (((d : Nat) : Int) < ((e : Nat) : Int)) = false := by rw [dlt, decide_eq_false_iff_not]; exact e3
                  simp only [e1, AW, reduceAdd, reduceCtorEq, reduceEqDiff, ↓reduceIte, reduceLT, reduceLeDiff, reduceSub, reducePow, reduceMul, reduceToNat, reduceLE, reduceEq, Int.reduceLT, Int.reduceBEq, Int.reduceBNe]
                  have eZY : Z = Y := Srt.unique hc.sto (by omega) (by omega) hZ (Srt.refl (by
                    by_cases h : d < e
                    · have : e = b := by omega
                      subst this; exact y4
                    · have : e = d := by omega
                      subst this; exact y5))
                  simp only [run_nil, endM, eZY, AW, reduceAdd, reduceCtorEq, reduceEqDiff, ↓reduceIte, reduceLT, reduceLeDiff, reduceSub, reducePow, reduceMul, reduceToNat, reduceLE, reduceEq, Int.reduceLT, Int.reduceBEq, Int.reduceBNe]
    have d1 : decide ((s : Int) < (r : Int)) = true := by rw [dlt, decide_eq_true_eq]; exact hlt
    have wh := half_w (a := s) (b := r) (n := l.length) (by omega) (by omega)
    obtain ⟨h, hh⟩ : ∃ h, h = (s + r) / 2 := ⟨_, rfl⟩
    rw [← hh] at wh
    have q1 : s ≤ h := by omega
    have q2 : h < r := by omega
    have bh : h < l.length := by omega
    have wp := wS (a := d + m - 1) (b := h) (by omega) (by omega)
    have bp : d + m - 1 - h < l.length := by omega
    have wh1 := w1N (a := h) (n := l.length) bh (by omega)
    have ho := ko h (d + m - 1 - h) (by omega) (by omega) (by omega) (by omega)
    have hcmp := hc.neg (el l (d + m - 1 - h)) (el l h) (hD _ (el_mem bp)) (hD _ (el_mem bh)) ho
    have hne : el l (d + m - 1 - h) ≠ el l h := by omega
    simp only [d1, wh, bh, wp, bp, map_el bh, map_el bp, List.length_map, AW, reduceAdd, reduceCtorEq, reduceEqDiff, ↓reduceIte, reduceLT, reduceLeDiff, reduceSub, reducePow, reduceMul, reduceToNat, reduceLE, reduceEq, Int.reduceLT, Int.reduceBEq, Int.reduceBNe]
    refine ops_callC (cs := [.bx p]) hf hn1 hn2 (by simp only [AW, reduceAdd, reduceCtorEq, reduceEqDiff, ↓reduceIte, reduceLT, reduceLeDiff, reduceSub, reducePow, reduceMul, reduceToNat, reduceLE, reduceEq, Int.reduceLT, Int.reduceBEq, Int.reduceBNe]) (hc.good (el l (d + m - 1 - h)) (el l h) (hD _ (el_mem bp)) (hD _ (el_mem bh))) (by simp only [intP, AW, reduceAdd, reduceCtorEq, reduceEqDiff, ↓reduceIte, reduceLT, reduceLeDiff, reduceSub, reducePow, reduceMul, reduceToNat, reduceLE, reduceEq, Int.reduceLT, Int.reduceBEq, Int.reduceBNe]) ?_
    simp only [intP, AW, reduceAdd, reduceCtorEq, reduceEqDiff, ↓reduceIte, reduceLT, reduceLeDiff, reduceSub, reducePow, reduceMul, reduceToNat, reduceLE, reduceEq, Int.reduceLT, Int.reduceBEq, Int.reduceBNe]
    refine drawnK rfl ?_
    by_cases ht : cf (el l (d + m - 1 - h)) (el l h) < 0
    · have d3 : decide (cf (el l (d + m - 1 - h)) (el l h) < 0) = true := decide_eq_true ht
      simp only [d3, AW, reduceAdd, reduceCtorEq, reduceEqDiff, ↓reduceIte, reduceLT, reduceLeDiff, reduceSub, reducePow, reduceMul, reduceToNat, reduceLE, reduceEq, Int.reduceLT, Int.reduceBEq, Int.reduceBNe]
      refine ⟨(s, h), ⟨g1, q1, by simp only; omega, g4, .inr (hcmp.1 ht)⟩, ?_, by simp only; omega⟩
      simp only [LW, Nat.reduceMod, Nat.reduceDiv, intP, AW, reduceAdd, reduceCtorEq, reduceEqDiff, ↓reduceIte, reduceLT, reduceLeDiff, reduceSub, reducePow, reduceMul, reduceToNat, reduceLE, reduceEq, Int.reduceLT, Int.reduceBEq, Int.reduceBNe]
    · have d3 : decide (cf (el l (d + m - 1 - h)) (el l h) < 0) = false := decide_eq_false ht
      simp only [d3, wh1, AW, reduceAdd, reduceCtorEq, reduceEqDiff, ↓reduceIte, reduceLT, reduceLeDiff, reduceSub, reducePow, reduceMul, reduceToNat, reduceLE, reduceEq, Int.reduceLT, Int.reduceBEq, Int.reduceBNe]
      have hla : lt (el l h) (el l (d + m - 1 - h)) := (hc.sto.tri hne).elim (fun h => absurd (hcmp.2 h) ht) id
      refine ⟨(h + 1, r), ⟨by simp only; omega, by simp only; omega, g3, .inr (by simp only [Nat.add_sub_cancel]; rw [show d + m - (h + 1) = d + m - 1 - h by omega]; exact hla), g5⟩, ?_, by simp only; omega⟩
      simp only [LW, Nat.reduceMod, Nat.reduceDiv, intP, AW, reduceAdd, reduceCtorEq, reduceEqDiff, ↓reduceIte, reduceLT, reduceLeDiff, reduceSub, reducePow, reduceMul, reduceToNat, reduceLE, reduceEq, Int.reduceLT, Int.reduceBEq, Int.reduceBNe]
  · have z3 : decide ((d : Int) < (m : Int)) = false := by rw [dlt, decide_eq_false_iff_not]; exact hdm
    simp only [ac55, intP, w1, z1, w2, z2, wh, w4, z3, w5, AW, reduceAdd, reduceCtorEq, reduceEqDiff, ↓reduceIte, reduceLT, reduceLeDiff, reduceSub, reducePow, reduceMul, reduceToNat, reduceLE, reduceEq, Int.reduceLT, Int.reduceBEq, Int.reduceBNe]
    refine run_loop (ι := Nat × Nat) (fun x => ⟨[(0, .own 0 0), (1, .sc (.int .i64 ((a : Nat) : Int))), (2, .sc (.int .i64 ((m : Nat) : Int))), (3, .sc (.int .i64 ((b : Nat) : Int))), (4, .clo F [.bx p]), (18, .sc (.int .i64 ((d : Nat) : Int))), (19, .sc (.int .i64 ((d + m : Nat) : Int))), (20, .sc (.int .i64 ((x.1 : Nat) : Int))), (21, .sc (.int .i64 ((x.2 : Nat) : Int))), (22, .sc (.int .i64 ((d + m - 1 : Nat) : Int)))], [(0, .row 3 1 0 ((l).map intP))], 32, 220⟩) (fun x => a ≤ x.1 ∧ x.1 ≤ x.2 ∧ x.2 ≤ m ∧ (x.1 = a ∨ lt (el l (x.1 - 1)) (el l (d + m - x.1))) ∧ (x.2 = m ∨ lt (el l (d + m - 1 - x.2)) (el l x.2))) (fun x => x.2 - x.1) 32 (fun _ => rfl) (a, m) (by simp only [LW, Nat.reduceMod, Nat.reduceDiv, intP, AW, reduceAdd, reduceCtorEq, reduceEqDiff, ↓reduceIte, reduceLT, reduceLeDiff, reduceSub, reducePow, reduceMul, reduceToNat, reduceLE, reduceEq, Int.reduceLT, Int.reduceBEq, Int.reduceBNe]) ⟨Nat.le_refl _, by simp only; omega, Nat.le_refl _, .inl rfl, .inl rfl⟩ ?_
    rintro ⟨s, r⟩ ⟨g1, g2, g3, g4, g5⟩
    simp only at g1 g2 g3 g4 g5
    by_cases hlt : s < r
    rotate_left
    · have d1 : decide ((s : Int) < (r : Int)) = false := by rw [dlt, decide_eq_false_iff_not]; exact hlt
      have er : r = s := by omega
      subst er
      have we := wS (a := d + m) (b := r) (by omega) (by omega)
      obtain ⟨e, he⟩ : ∃ e, e = d + m - r := ⟨_, rfl⟩
      rw [← he] at we g4
      obtain ⟨s, hs⟩ : ∃ s, s = r := ⟨_, rfl⟩
      rw [← hs] at we g4 g5 d1 ⊢
      have f1 : a ≤ s := by omega
      have f2 : s ≤ m := by omega
      have f3 : m ≤ e := by omega
      have f4 : e ≤ b := by omega
      have f5 : s + (e - m) = d := by omega
      have c1 : a < s → e < b → lt (el l (s - 1)) (el l e) := fun q1 q2 => by
        rcases g4 with g4 | g4
        · omega
        · exact g4
      have c2 : s < m → m < e → lt (el l (e - 1)) (el l s) := fun q1 q2 => by
        rcases g5 with g5 | g5
        · omega
        · rw [show e - 1 = d + m - 1 - s by omega]; exact g5
      obtain ⟨X, hX⟩ : ∃ X, X = rot l s m e := ⟨_, rfl⟩
      obtain ⟨r1, r2, r3, r4, r5, r6⟩ := rot_sorted f1 f2 f3 f4 hb k1 k2 ko
      have xl : X.length = l.length := by rw [hX]; exact rot_len f2 f3 (by omega)
      have xp : X.Perm l := by rw [hX]; exact rot_perm f2 f3
      have ms := fun (Y Z : List Int) => merge_step (l2 := Y) (l3 := Z) hc.sto f1 f2 f3 f4 hb k1 k2 c1 c2
      rw [f5] at r2 r3 r4 r6 ms
      rw [← hX] at r1 r2 r3 r4 r5 r6 ms
      have xn : X.Nodup := xp.nodup_iff.2 hn
      have xD : ∀ x ∈ X, D x := fun x hx => hD x (xp.mem_iff.1 hx)
      obtain ⟨Y, hY⟩ := Srt.exists hc.sto xn (show a ≤ d by omega) (show d ≤ X.length by omega)
      have yl := hY.len
      have yn : Y.Nodup := hY.perm.nodup_iff.2 xn
      have yD : ∀ x ∈ Y, D x := fun x hx => xD x (hY.perm.mem_iff.1 hx)
      have y4 : SortedOn lt Y d e := sorted_congr r4 (fun i q1 q2 => hY.out i (.inr q1))
      have y5 : SortedOn lt Y e b := sorted_congr r5 (fun i q1 q2 => hY.out i (.inr (by omega)))
      have y6 : OrdOn Y d e b := ord_congr r6 (fun i q1 q2 => hY.out i (.inr q1))
      obtain ⟨Z, hZ⟩ := Srt.exists hc.sto yn (show d ≤ b by omega) (show b ≤ Y.length by omega)
      have eZ : Z = l2 := Srt.unique hc.sto (by omega) hb (ms Y Z hY hZ) h1
      subst eZ
      clear ms c1 c2 g4 g5
      simp only [d1, we, AW, reduceAdd, reduceCtorEq, reduceEqDiff, ↓reduceIte, reduceLT, reduceLeDiff, reduceSub, reducePow, reduceMul, reduceToNat, reduceLE, reduceEq, Int.reduceLT, Int.reduceBEq, Int.reduceBNe]
      by_cases hr : s < m ∧ m < e
      · have e1 : decide (((s : Nat) : Int) < ((m : Nat) : Int)) = true := by rw [dlt, decide_eq_true_eq]; exact hr.1
        have e2 : decide (((m : Nat) : Int) < ((e : Nat) : Int)) = true := by rw [dlt, decide_eq_true_eq]; exact hr.2
        simp only [e1, e2, AW, reduceAdd, reduceCtorEq, reduceEqDiff, ↓reduceIte, reduceLT, reduceLeDiff, reduceSub, reducePow, reduceMul, reduceToNat, reduceLE, reduceEq, Int.reduceLT, Int.reduceBEq, Int.reduceBNe]
        refine ops_callM (s := 0) (ver := 0) [] [intP ((s : Nat) : Int), intP ((m : Nat) : Int), intP ((e : Nat) : Int), .clo F [.bx p]] (rotate_m l s m e F [.bx p] hr.1 hr.2 (by omega) (by omega)) (by simp only [intP, AW, reduceAdd, reduceCtorEq, reduceEqDiff, ↓reduceIte, reduceLT, reduceLeDiff, reduceSub, reducePow, reduceMul, reduceToNat, reduceLE, reduceEq, Int.reduceLT, Int.reduceBEq, Int.reduceBNe]) (by simp only [AW, reduceAdd, reduceCtorEq, reduceEqDiff, ↓reduceIte, reduceLT, reduceLeDiff, reduceSub, reducePow, reduceMul, reduceToNat, reduceLE, reduceEq, Int.reduceLT, Int.reduceBEq, Int.reduceBNe]) (by simp only [intP, List.not_mem_nil, AW, reduceAdd, reduceCtorEq, reduceEqDiff, ↓reduceIte, reduceLT, reduceLeDiff, reduceSub, reducePow, reduceMul, reduceToNat, reduceLE, reduceEq, Int.reduceLT, Int.reduceBEq, Int.reduceBNe]) (by simp only [AW, reduceAdd, reduceCtorEq, reduceEqDiff, ↓reduceIte, reduceLT, reduceLeDiff, reduceSub, reducePow, reduceMul, reduceToNat, reduceLE, reduceEq, Int.reduceLT, Int.reduceBEq, Int.reduceBNe]) (by simp only [intP, AW, reduceAdd, reduceCtorEq, reduceEqDiff, ↓reduceIte, reduceLT, reduceLeDiff, reduceSub, reducePow, reduceMul, reduceToNat, reduceLE, reduceEq, Int.reduceLT, Int.reduceBEq, Int.reduceBNe]) ?_; simp only [intP, AW, reduceAdd, reduceCtorEq, reduceEqDiff, ↓reduceIte, reduceLT, reduceLeDiff, reduceSub, reducePow, reduceMul, reduceToNat, reduceLE, reduceEq, Int.reduceLT, Int.reduceBEq, Int.reduceBNe]
        rw [← hX]
        by_cases hu : a < s ∧ s < d
        · have e1 : decide (((a : Nat) : Int) < ((s : Nat) : Int)) = true := by rw [dlt, decide_eq_true_eq]; exact hu.1
          have e2 : decide (((s : Nat) : Int) < ((d : Nat) : Int)) = true := by rw [dlt, decide_eq_true_eq]; exact hu.2
          simp only [e1, e2, AW, reduceAdd, reduceCtorEq, reduceEqDiff, ↓reduceIte, reduceLT, reduceLeDiff, reduceSub, reducePow, reduceMul, reduceToNat, reduceLE, reduceEq, Int.reduceLT, Int.reduceBEq, Int.reduceBNe]
          refine ops_callM (s := 0) (ver := 0) [] [intP ((a : Nat) : Int), intP ((s : Nat) : Int), intP ((d : Nat) : Int), .clo F [.bx p]] (IH (by omega) hu.1 hu.2 (by omega) (by omega) xn r1 r2 r3 xD hY) (by simp only [intP, AW, reduceAdd, reduceCtorEq, reduceEqDiff, ↓reduceIte, reduceLT, reduceLeDiff, reduceSub, reducePow, reduceMul, reduceToNat, reduceLE, reduceEq, Int.reduceLT, Int.reduceBEq, Int.reduceBNe]) (by simp only [AW, reduceAdd, reduceCtorEq, reduceEqDiff, ↓reduceIte, reduceLT, reduceLeDiff, reduceSub, reducePow, reduceMul, reduceToNat, reduceLE, reduceEq, Int.reduceLT, Int.reduceBEq, Int.reduceBNe]) (by simp only [intP, List.not_mem_nil, AW, reduceAdd, reduceCtorEq, reduceEqDiff, ↓reduceIte, reduceLT, reduceLeDiff, reduceSub, reducePow, reduceMul, reduceToNat, reduceLE, reduceEq, Int.reduceLT, Int.reduceBEq, Int.reduceBNe]) (by simp only [AW, reduceAdd, reduceCtorEq, reduceEqDiff, ↓reduceIte, reduceLT, reduceLeDiff, reduceSub, reducePow, reduceMul, reduceToNat, reduceLE, reduceEq, Int.reduceLT, Int.reduceBEq, Int.reduceBNe]) (by simp only [intP, AW, reduceAdd, reduceCtorEq, reduceEqDiff, ↓reduceIte, reduceLT, reduceLeDiff, reduceSub, reducePow, reduceMul, reduceToNat, reduceLE, reduceEq, Int.reduceLT, Int.reduceBEq, Int.reduceBNe]) ?_; simp only [intP, AW, reduceAdd, reduceCtorEq, reduceEqDiff, ↓reduceIte, reduceLT, reduceLeDiff, reduceSub, reducePow, reduceMul, reduceToNat, reduceLE, reduceEq, Int.reduceLT, Int.reduceBEq, Int.reduceBNe]
          by_cases hv : d < e ∧ e < b
          · have e1 : decide (((d : Nat) : Int) < ((e : Nat) : Int)) = true := by rw [dlt, decide_eq_true_eq]; exact hv.1
            have e2 : decide (((e : Nat) : Int) < ((b : Nat) : Int)) = true := by rw [dlt, decide_eq_true_eq]; exact hv.2
            simp only [e1, e2, AW, reduceAdd, reduceCtorEq, reduceEqDiff, ↓reduceIte, reduceLT, reduceLeDiff, reduceSub, reducePow, reduceMul, reduceToNat, reduceLE, reduceEq, Int.reduceLT, Int.reduceBEq, Int.reduceBNe]
            refine ops_callM (s := 0) (ver := 0) [] [intP ((d : Nat) : Int), intP ((e : Nat) : Int), intP ((b : Nat) : Int), .clo F [.bx p]] (IH (by omega) hv.1 hv.2 (by omega) (by omega) yn y4 y5 y6 yD hZ) (by simp only [intP, AW, reduceAdd, reduceCtorEq, reduceEqDiff, ↓reduceIte, reduceLT, reduceLeDiff, reduceSub, reducePow, reduceMul, reduceToNat, reduceLE, reduceEq, Int.reduceLT, Int.reduceBEq, Int.reduceBNe]) (by simp only [AW, reduceAdd, reduceCtorEq, reduceEqDiff, ↓reduceIte, reduceLT, reduceLeDiff, reduceSub, reducePow, reduceMul, reduceToNat, reduceLE, reduceEq, Int.reduceLT, Int.reduceBEq, Int.reduceBNe]) (by simp only [intP, List.not_mem_nil, AW, reduceAdd, reduceCtorEq, reduceEqDiff, ↓reduceIte, reduceLT, reduceLeDiff, reduceSub, reducePow, reduceMul, reduceToNat, reduceLE, reduceEq, Int.reduceLT, Int.reduceBEq, Int.reduceBNe]) (by simp only [AW, reduceAdd, reduceCtorEq, reduceEqDiff, ↓reduceIte, reduceLT, reduceLeDiff, reduceSub, reducePow, reduceMul, reduceToNat, reduceLE, reduceEq, Int.reduceLT, Int.reduceBEq, Int.reduceBNe]) (by simp only [intP, AW, reduceAdd, reduceCtorEq, reduceEqDiff, ↓reduceIte, reduceLT, reduceLeDiff, reduceSub, reducePow, reduceMul, reduceToNat, reduceLE, reduceEq, Int.reduceLT, Int.reduceBEq, Int.reduceBNe]) ?_; simp only [intP, AW, reduceAdd, reduceCtorEq, reduceEqDiff, ↓reduceIte, reduceLT, reduceLeDiff, reduceSub, reducePow, reduceMul, reduceToNat, reduceLE, reduceEq, Int.reduceLT, Int.reduceBEq, Int.reduceBNe]
            (try simp only [run_nil, endM, AW, reduceAdd, reduceCtorEq, reduceEqDiff, ↓reduceIte, reduceLT, reduceLeDiff, reduceSub, reducePow, reduceMul, reduceToNat, reduceLE, reduceEq, Int.reduceLT, Int.reduceBEq, Int.reduceBNe])
          · by_cases e3 : d < e
            · have e1 : decide (((d : Nat) : Int) < ((e : Nat) : Int)) = true := by rw [dlt, decide_eq_true_eq]; exact e3
              have e2 : decide (((e : Nat) : Int) < ((b : Nat) : Int)) = false := by rw [dlt, decide_eq_false_iff_not]; exact fun h => hv ⟨e3, h⟩
              simp only [e1, e2, AW, reduceAdd, reduceCtorEq, reduceEqDiff, ↓reduceIte, reduceLT, reduceLeDiff, reduceSub, reducePow, reduceMul, reduceToNat, reduceLE, reduceEq, Int.reduceLT, Int.reduceBEq, Int.reduceBNe]
              have eZY : Z = Y := Srt.unique hc.sto (by omega) (by omega) hZ (Srt.refl (by
                by_cases h : d < e
                · have : e = b := by omega
                  subst this; exact y4
                · have : e = d := by omega
                  subst this; exact y5))
              simp only [run_nil, endM, eZY, AW, reduceAdd, reduceCtorEq, reduceEqDiff, ↓reduceIte, reduceLT, reduceLeDiff, reduceSub, reducePow, reduceMul, reduceToNat, reduceLE, reduceEq, Int.reduceLT, Int.reduceBEq, Int.reduceBNe]
            · have e1 : decide (((d : Nat) : Int) < ((e : Nat) : Int)) = false := by rw [dlt, decide_eq_false_iff_not]; exact e3
              simp only [e1, AW, reduceAdd, reduceCtorEq, reduceEqDiff, ↓reduceIte, reduceLT, reduceLeDiff, reduceSub, reducePow, reduceMul, reduceToNat, reduceLE, reduceEq, Int.reduceLT, Int.reduceBEq, Int.reduceBNe]
              have eZY : Z = Y := Srt.unique hc.sto (by omega) (by omega) hZ (Srt.refl (by
                by_cases h : d < e
                · have : e = b := by omega
                  subst this; exact y4
                · have : e = d := by omega
                  subst this; exact y5))
              simp only [run_nil, endM, eZY, AW, reduceAdd, reduceCtorEq, reduceEqDiff, ↓reduceIte, reduceLT, reduceLeDiff, reduceSub, reducePow, reduceMul, reduceToNat, reduceLE, reduceEq, Int.reduceLT, Int.reduceBEq, Int.reduceBNe]
        · by_cases e3 : a < s
          · have e1 : decide (((a : Nat) : Int) < ((s : Nat) : Int)) = true := by rw [dlt, decide_eq_true_eq]; exact e3
            have e2 : decide (((s : Nat) : Int) < ((d : Nat) : Int)) = false := by rw [dlt, decide_eq_false_iff_not]; exact fun h => hu ⟨e3, h⟩
            simp only [e1, e2, AW, reduceAdd, reduceCtorEq, reduceEqDiff, ↓reduceIte, reduceLT, reduceLeDiff, reduceSub, reducePow, reduceMul, reduceToNat, reduceLE, reduceEq, Int.reduceLT, Int.reduceBEq, Int.reduceBNe]
            have eYX : Y = X := Srt.unique hc.sto (by omega) (by omega) hY (Srt.refl (by
              by_cases h : a < s
              · have : s = d := by omega
                rw [← this]; exact r1
              · have : s = a := by omega
                rw [this] at r2; exact r2))
            rw [← eYX]
            by_cases hv : d < e ∧ e < b
            · have e1 : decide (((d : Nat) : Int) < ((e : Nat) : Int)) = true := by rw [dlt, decide_eq_true_eq]; exact hv.1
              have e2 : decide (((e : Nat) : Int) < ((b : Nat) : Int)) = true := by rw [dlt, decide_eq_true_eq]; exact hv.2
              simp only [e1, e2, AW, reduceAdd, reduceCtorEq, reduceEqDiff, ↓reduceIte, reduceLT, reduceLeDiff, reduceSub, reducePow, reduceMul, reduceToNat, reduceLE, reduceEq, Int.reduceLT, Int.reduceBEq, Int.reduceBNe]
              refine ops_callM (s := 0) (ver := 0) [] [intP ((d : Nat) : Int), intP ((e : Nat) : Int), intP ((b : Nat) : Int), .clo F [.bx p]] (IH (by omega) hv.1 hv.2 (by omega) (by omega) yn y4 y5 y6 yD hZ) (by simp only [intP, AW, reduceAdd, reduceCtorEq, reduceEqDiff, ↓reduceIte, reduceLT, reduceLeDiff, reduceSub, reducePow, reduceMul, reduceToNat, reduceLE, reduceEq, Int.reduceLT, Int.reduceBEq, Int.reduceBNe]) (by simp only [AW, reduceAdd, reduceCtorEq, reduceEqDiff, ↓reduceIte, reduceLT, reduceLeDiff, reduceSub, reducePow, reduceMul, reduceToNat, reduceLE, reduceEq, Int.reduceLT, Int.reduceBEq, Int.reduceBNe]) (by simp only [intP, List.not_mem_nil, AW, reduceAdd, reduceCtorEq, reduceEqDiff, ↓reduceIte, reduceLT, reduceLeDiff, reduceSub, reducePow, reduceMul, reduceToNat, reduceLE, reduceEq, Int.reduceLT, Int.reduceBEq, Int.reduceBNe]) (by simp only [AW, reduceAdd, reduceCtorEq, reduceEqDiff, ↓reduceIte, reduceLT, reduceLeDiff, reduceSub, reducePow, reduceMul, reduceToNat, reduceLE, reduceEq, Int.reduceLT, Int.reduceBEq, Int.reduceBNe]) (by simp only [intP, AW, reduceAdd, reduceCtorEq, reduceEqDiff, ↓reduceIte, reduceLT, reduceLeDiff, reduceSub, reducePow, reduceMul, reduceToNat, reduceLE, reduceEq, Int.reduceLT, Int.reduceBEq, Int.reduceBNe]) ?_; simp only [intP, AW, reduceAdd, reduceCtorEq, reduceEqDiff, ↓reduceIte, reduceLT, reduceLeDiff, reduceSub, reducePow, reduceMul, reduceToNat, reduceLE, reduceEq, Int.reduceLT, Int.reduceBEq, Int.reduceBNe]
              (try simp only [run_nil, endM, AW, reduceAdd, reduceCtorEq, reduceEqDiff, ↓reduceIte, reduceLT, reduceLeDiff, reduceSub, reducePow, reduceMul, reduceToNat, reduceLE, reduceEq, Int.reduceLT, Int.reduceBEq, Int.reduceBNe])
            · by_cases e3 : d < e
              · have e1 : decide (((d : Nat) : Int) < ((e : Nat) : Int)) = true := by rw [dlt, decide_eq_true_eq]; exact e3
                have e2 : decide (((e : Nat) : Int) < ((b : Nat) : Int)) = false := by rw [dlt, decide_eq_false_iff_not]; exact fun h => hv ⟨e3, h⟩
                simp only [e1, e2, AW, reduceAdd, reduceCtorEq, reduceEqDiff, ↓reduceIte, reduceLT, reduceLeDiff, reduceSub, reducePow, reduceMul, reduceToNat, reduceLE, reduceEq, Int.reduceLT, Int.reduceBEq, Int.reduceBNe]
                have eZY : Z = Y := Srt.unique hc.sto (by omega) (by omega) hZ (Srt.refl (by
                  by_cases h : d < e
                  · have : e = b := by omega
                    subst this; exact y4
                  · have : e = d := by omega
                    subst this; exact y5))
                simp only [run_nil, endM, eZY, AW, reduceAdd, reduceCtorEq, reduceEqDiff, ↓reduceIte, reduceLT, reduceLeDiff, reduceSub, reducePow, reduceMul, reduceToNat, reduceLE, reduceEq, Int.reduceLT, Int.reduceBEq, Int.reduceBNe]
              · have e1 : decide (((d : Nat) : Int) < ((e : Nat) : Int)) = false := by rw [dlt, decide_eq_false_iff_not]; exact e3
                simp only [e1, AW, reduceAdd, reduceCtorEq, reduceEqDiff, ↓reduceIte, reduceLT, reduceLeDiff, reduceSub, reducePow, reduceMul, reduceToNat, reduceLE, reduceEq, Int.reduceLT, Int.reduceBEq, Int.reduceBNe]
                have eZY : Z = Y := Srt.unique hc.sto (by omega) (by omega) hZ (Srt.refl (by
                  by_cases h : d < e
                  · have : e = b := by omega
                    subst this; exact y4
                  · have : e = d := by omega
                    subst this; exact y5))
                simp only [run_nil, endM, eZY, AW, reduceAdd, reduceCtorEq, reduceEqDiff, ↓reduceIte, reduceLT, reduceLeDiff, reduceSub, reducePow, reduceMul, reduceToNat, reduceLE, reduceEq, Int.reduceLT, Int.reduceBEq, Int.reduceBNe]
          · have e1 : decide (((a : Nat) : Int) < ((s : Nat) : Int)) = false := by rw [dlt, decide_eq_false_iff_not]; exact e3
            simp only [e1, AW, reduceAdd, reduceCtorEq, reduceEqDiff, ↓reduceIte, reduceLT, reduceLeDiff, reduceSub, reducePow, reduceMul, reduceToNat, reduceLE, reduceEq, Int.reduceLT, Int.reduceBEq, Int.reduceBNe]
            have eYX : Y = X := Srt.unique hc.sto (by omega) (by omega) hY (Srt.refl (by
              by_cases h : a < s
              · have : s = d := by omega
                rw [← this]; exact r1
              · have : s = a := by omega
                rw [this] at r2; exact r2))
            rw [← eYX]
            by_cases hv : d < e ∧ e < b
            · have e1 : decide (((d : Nat) : Int) < ((e : Nat) : Int)) = true := by rw [dlt, decide_eq_true_eq]; exact hv.1
              have e2 : decide (((e : Nat) : Int) < ((b : Nat) : Int)) = true := by rw [dlt, decide_eq_true_eq]; exact hv.2
              simp only [e1, e2, AW, reduceAdd, reduceCtorEq, reduceEqDiff, ↓reduceIte, reduceLT, reduceLeDiff, reduceSub, reducePow, reduceMul, reduceToNat, reduceLE, reduceEq, Int.reduceLT, Int.reduceBEq, Int.reduceBNe]
              refine ops_callM (s := 0) (ver := 0) [] [intP ((d : Nat) : Int), intP ((e : Nat) : Int), intP ((b : Nat) : Int), .clo F [.bx p]] (IH (by omega) hv.1 hv.2 (by omega) (by omega) yn y4 y5 y6 yD hZ) (by simp only [intP, AW, reduceAdd, reduceCtorEq, reduceEqDiff, ↓reduceIte, reduceLT, reduceLeDiff, reduceSub, reducePow, reduceMul, reduceToNat, reduceLE, reduceEq, Int.reduceLT, Int.reduceBEq, Int.reduceBNe]) (by simp only [AW, reduceAdd, reduceCtorEq, reduceEqDiff, ↓reduceIte, reduceLT, reduceLeDiff, reduceSub, reducePow, reduceMul, reduceToNat, reduceLE, reduceEq, Int.reduceLT, Int.reduceBEq, Int.reduceBNe]) (by simp only [intP, List.not_mem_nil, AW, reduceAdd, reduceCtorEq, reduceEqDiff, ↓reduceIte, reduceLT, reduceLeDiff, reduceSub, reducePow, reduceMul, reduceToNat, reduceLE, reduceEq, Int.reduceLT, Int.reduceBEq, Int.reduceBNe]) (by simp only [AW, reduceAdd, reduceCtorEq, reduceEqDiff, ↓reduceIte, reduceLT, reduceLeDiff, reduceSub, reducePow, reduceMul, reduceToNat, reduceLE, reduceEq, Int.reduceLT, Int.reduceBEq, Int.reduceBNe]) (by simp only [intP, AW, reduceAdd, reduceCtorEq, reduceEqDiff, ↓reduceIte, reduceLT, reduceLeDiff, reduceSub, reducePow, reduceMul, reduceToNat, reduceLE, reduceEq, Int.reduceLT, Int.reduceBEq, Int.reduceBNe]) ?_; simp only [intP, AW, reduceAdd, reduceCtorEq, reduceEqDiff, ↓reduceIte, reduceLT, reduceLeDiff, reduceSub, reducePow, reduceMul, reduceToNat, reduceLE, reduceEq, Int.reduceLT, Int.reduceBEq, Int.reduceBNe]
              (try simp only [run_nil, endM, AW, reduceAdd, reduceCtorEq, reduceEqDiff, ↓reduceIte, reduceLT, reduceLeDiff, reduceSub, reducePow, reduceMul, reduceToNat, reduceLE, reduceEq, Int.reduceLT, Int.reduceBEq, Int.reduceBNe])
            · by_cases e3 : d < e
              · have e1 : decide (((d : Nat) : Int) < ((e : Nat) : Int)) = true := by rw [dlt, decide_eq_true_eq]; exact e3
                have e2 : decide (((e : Nat) : Int) < ((b : Nat) : Int)) = false := by rw [dlt, decide_eq_false_iff_not]; exact fun h => hv ⟨e3, h⟩
                simp only [e1, e2, AW, reduceAdd, reduceCtorEq, reduceEqDiff, ↓reduceIte, reduceLT, reduceLeDiff, reduceSub, reducePow, reduceMul, reduceToNat, reduceLE, reduceEq, Int.reduceLT, Int.reduceBEq, Int.reduceBNe]
                have eZY : Z = Y := Srt.unique hc.sto (by omega) (by omega) hZ (Srt.refl (by
                  by_cases h : d < e
                  · have : e = b := by omega
                    subst this; exact y4
                  · have : e = d := by omega
                    subst this; exact y5))
                simp only [run_nil, endM, eZY, AW, reduceAdd, reduceCtorEq, reduceEqDiff, ↓reduceIte, reduceLT, reduceLeDiff, reduceSub, reducePow, reduceMul, reduceToNat, reduceLE, reduceEq, Int.reduceLT, Int.reduceBEq, Int.reduceBNe]
              · have e1 : decide (((d : Nat) : Int) < ((e : Nat) : Int)) = false := by rw [dlt, decide_eq_false_iff_not]; exact e3
                simp only [e1, AW, reduceAdd, reduceCtorEq, reduceEqDiff, ↓reduceIte, reduceLT, reduceLeDiff, reduceSub, reducePow, reduceMul, reduceToNat, reduceLE, reduceEq, Int.reduceLT, Int.reduceBEq, Int.reduceBNe]
                have eZY : Z = Y := Srt.unique hc.sto (by omega) (by omega) hZ (Srt.refl (by
                  by_cases h : d < e
                  · have : e = b := by omega
                    subst this; exact y4
                  · have : e = d := by omega
                    subst this; exact y5))
                simp only [run_nil, endM, eZY, AW, reduceAdd, reduceCtorEq, reduceEqDiff, ↓reduceIte, reduceLT, reduceLeDiff, reduceSub, reducePow, reduceMul, reduceToNat, reduceLE, reduceEq, Int.reduceLT, Int.reduceBEq, Int.reduceBNe]
      · by_cases e3 : s < m
        · have e1 : decide (((s : Nat) : Int) < ((m : Nat) : Int)) = true := by rw [dlt, decide_eq_true_eq]; exact e3
          have e2 : decide (((m : Nat) : Int) < ((e : Nat) : Int)) = false := by rw [dlt, decide_eq_false_iff_not]; exact fun h => hr ⟨e3, h⟩
          simp only [e1, e2, AW, reduceAdd, reduceCtorEq, reduceEqDiff, ↓reduceIte, reduceLT, reduceLeDiff, reduceSub, reducePow, reduceMul, reduceToNat, reduceLE, reduceEq, Int.reduceLT, Int.reduceBEq, Int.reduceBNe]
          have eX : X = l := by rw [hX]; exact rot_same (by omega) (by omega) (by omega) (by omega)
          rw [← eX]
          by_cases hu : a < s ∧ s < d
          · have e1 : decide (((a : Nat) : Int) < ((s : Nat) : Int)) = true := by rw [dlt, decide_eq_true_eq]; exact hu.1
            have e2 : decide (((s : Nat) : Int) < ((d : Nat) : Int)) = true := by rw [dlt, decide_eq_true_eq]; exact hu.2
            simp only [e1, e2, AW, reduceAdd, reduceCtorEq, reduceEqDiff, ↓reduceIte, reduceLT, reduceLeDiff, reduceSub, reducePow, reduceMul, reduceToNat, reduceLE, reduceEq, Int.reduceLT, Int.reduceBEq, Int.reduceBNe]
            refine ops_callM (s := 0) (ver := 0) [] [intP ((a : Nat) : Int), intP ((s : Nat) : Int), intP ((d : Nat) : Int), .clo F [.bx p]] (IH (by omega) hu.1 hu.2 (by omega) (by omega) xn r1 r2 r3 xD hY) (by simp only [intP, AW, reduceAdd, reduceCtorEq, reduceEqDiff, ↓reduceIte, reduceLT, reduceLeDiff, reduceSub, reducePow, reduceMul, reduceToNat, reduceLE, reduceEq, Int.reduceLT, Int.reduceBEq, Int.reduceBNe]) (by simp only [AW, reduceAdd, reduceCtorEq, reduceEqDiff, ↓reduceIte, reduceLT, reduceLeDiff, reduceSub, reducePow, reduceMul, reduceToNat, reduceLE, reduceEq, Int.reduceLT, Int.reduceBEq, Int.reduceBNe]) (by simp only [intP, List.not_mem_nil, AW, reduceAdd, reduceCtorEq, reduceEqDiff, ↓reduceIte, reduceLT, reduceLeDiff, reduceSub, reducePow, reduceMul, reduceToNat, reduceLE, reduceEq, Int.reduceLT, Int.reduceBEq, Int.reduceBNe]) (by simp only [AW, reduceAdd, reduceCtorEq, reduceEqDiff, ↓reduceIte, reduceLT, reduceLeDiff, reduceSub, reducePow, reduceMul, reduceToNat, reduceLE, reduceEq, Int.reduceLT, Int.reduceBEq, Int.reduceBNe]) (by simp only [intP, AW, reduceAdd, reduceCtorEq, reduceEqDiff, ↓reduceIte, reduceLT, reduceLeDiff, reduceSub, reducePow, reduceMul, reduceToNat, reduceLE, reduceEq, Int.reduceLT, Int.reduceBEq, Int.reduceBNe]) ?_; simp only [intP, AW, reduceAdd, reduceCtorEq, reduceEqDiff, ↓reduceIte, reduceLT, reduceLeDiff, reduceSub, reducePow, reduceMul, reduceToNat, reduceLE, reduceEq, Int.reduceLT, Int.reduceBEq, Int.reduceBNe]
            by_cases hv : d < e ∧ e < b
            · have e1 : decide (((d : Nat) : Int) < ((e : Nat) : Int)) = true := by rw [dlt, decide_eq_true_eq]; exact hv.1
              have e2 : decide (((e : Nat) : Int) < ((b : Nat) : Int)) = true := by rw [dlt, decide_eq_true_eq]; exact hv.2
              simp only [e1, e2, AW, reduceAdd, reduceCtorEq, reduceEqDiff, ↓reduceIte, reduceLT, reduceLeDiff, reduceSub, reducePow, reduceMul, reduceToNat, reduceLE, reduceEq, Int.reduceLT, Int.reduceBEq, Int.reduceBNe]
              refine ops_callM (s := 0) (ver := 0) [] [intP ((d : Nat) : Int), intP ((e : Nat) : Int), intP ((b : Nat) : Int), .clo F [.bx p]] (IH (by omega) hv.1 hv.2 (by omega) (by omega) yn y4 y5 y6 yD hZ) (by simp only [intP, AW, reduceAdd, reduceCtorEq, reduceEqDiff, ↓reduceIte, reduceLT, reduceLeDiff, reduceSub, reducePow, reduceMul, reduceToNat, reduceLE, reduceEq, Int.reduceLT, Int.reduceBEq, Int.reduceBNe]) (by simp only [AW, reduceAdd, reduceCtorEq, reduceEqDiff, ↓reduceIte, reduceLT, reduceLeDiff, reduceSub, reducePow, reduceMul, reduceToNat, reduceLE, reduceEq, Int.reduceLT, Int.reduceBEq, Int.reduceBNe]) (by simp only [intP, List.not_mem_nil, AW, reduceAdd, reduceCtorEq, reduceEqDiff, ↓reduceIte, reduceLT, reduceLeDiff, reduceSub, reducePow, reduceMul, reduceToNat, reduceLE, reduceEq, Int.reduceLT, Int.reduceBEq, Int.reduceBNe]) (by simp only [AW, reduceAdd, reduceCtorEq, reduceEqDiff, ↓reduceIte, reduceLT, reduceLeDiff, reduceSub, reducePow, reduceMul, reduceToNat, reduceLE, reduceEq, Int.reduceLT, Int.reduceBEq, Int.reduceBNe]) (by simp only [intP, AW, reduceAdd, reduceCtorEq, reduceEqDiff, ↓reduceIte, reduceLT, reduceLeDiff, reduceSub, reducePow, reduceMul, reduceToNat, reduceLE, reduceEq, Int.reduceLT, Int.reduceBEq, Int.reduceBNe]) ?_; simp only [intP, AW, reduceAdd, reduceCtorEq, reduceEqDiff, ↓reduceIte, reduceLT, reduceLeDiff, reduceSub, reducePow, reduceMul, reduceToNat, reduceLE, reduceEq, Int.reduceLT, Int.reduceBEq, Int.reduceBNe]
              (try simp only [run_nil, endM, AW, reduceAdd, reduceCtorEq, reduceEqDiff, ↓reduceIte, reduceLT, reduceLeDiff, reduceSub, reducePow, reduceMul, reduceToNat, reduceLE, reduceEq, Int.reduceLT, Int.reduceBEq, Int.reduceBNe])
            · by_cases e3 : d < e
              · have e1 : decide (((d : Nat) : Int) < ((e : Nat) : Int)) = true := by rw [dlt, decide_eq_true_eq]; exact e3
                have e2 : decide (((e : Nat) : Int) < ((b : Nat) : Int)) = false := by rw [dlt, decide_eq_false_iff_not]; exact fun h => hv ⟨e3, h⟩
                simp only [e1, e2, AW, reduceAdd, reduceCtorEq, reduceEqDiff, ↓reduceIte, reduceLT, reduceLeDiff, reduceSub, reducePow, reduceMul, reduceToNat, reduceLE, reduceEq, Int.reduceLT, Int.reduceBEq, Int.reduceBNe]
                have eZY : Z = Y := Srt.unique hc.sto (by omega) (by omega) hZ (Srt.refl (by
                  by_cases h : d < e
                  · have : e = b := by omega
                    subst this; exact y4
                  · have : e = d := by omega
                    subst this; exact y5))
                simp only [run_nil, endM, eZY, AW, reduceAdd, reduceCtorEq, reduceEqDiff, ↓reduceIte, reduceLT, reduceLeDiff, reduceSub, reducePow, reduceMul, reduceToNat, reduceLE, reduceEq, Int.reduceLT, Int.reduceBEq, Int.reduceBNe]
              · have e1 : decide (((d : Nat) : Int) < ((e : Nat) : Int)) = false := by rw [dlt, decide_eq_false_iff_not]; exact e3
                simp only [e1, AW, reduceAdd, reduceCtorEq, reduceEqDiff, ↓reduceIte, reduceLT, reduceLeDiff, reduceSub, reducePow, reduceMul, reduceToNat, reduceLE, reduceEq, Int.reduceLT, Int.reduceBEq, Int.reduceBNe]
                have eZY : Z = Y := Srt.unique hc.sto (by omega) (by omega) hZ (Srt.refl (by
                  by_cases h : d < e
                  · have : e = b := by omega
                    subst this; exact y4
                  · have : e = d := by omega
                    subst this; exact y5))
                simp only [run_nil, endM, eZY, AW, reduceAdd, reduceCtorEq, reduceEqDiff, ↓reduceIte, reduceLT, reduceLeDiff, reduceSub, reducePow, reduceMul, reduceToNat, reduceLE, reduceEq, Int.reduceLT, Int.reduceBEq, Int.reduceBNe]
          · by_cases e3 : a < s
            · have e1 : decide (((a : Nat) : Int) < ((s : Nat) : Int)) = true := by rw [dlt, decide_eq_true_eq]; exact e3
              have e2 : decide (((s : Nat) : Int) < ((d : Nat) : Int)) = false := by rw [dlt, decide_eq_false_iff_not]; exact fun h => hu ⟨e3, h⟩
              simp only [e1, e2, AW, reduceAdd, reduceCtorEq, reduceEqDiff, ↓reduceIte, reduceLT, reduceLeDiff, reduceSub, reducePow, reduceMul, reduceToNat, reduceLE, reduceEq, Int.reduceLT, Int.reduceBEq, Int.reduceBNe]
              have eYX : Y = X := Srt.unique hc.sto (by omega) (by omega) hY (Srt.refl (by
                by_cases h : a < s
                · have : s = d := by omega
                  rw [← this]; exact r1
                · have : s = a := by omega
                  rw [this] at r2; exact r2))
              rw [← eYX]
              by_cases hv : d < e ∧ e < b
              · have e1 : decide (((d : Nat) : Int) < ((e : Nat) : Int)) = true := by rw [dlt, decide_eq_true_eq]; exact hv.1
                have e2 : decide (((e : Nat) : Int) < ((b : Nat) : Int)) = true := by rw [dlt, decide_eq_true_eq]; exact hv.2
                simp only [e1, e2, AW, reduceAdd, reduceCtorEq, reduceEqDiff, ↓reduceIte, reduceLT, reduceLeDiff, reduceSub, reducePow, reduceMul, reduceToNat, reduceLE, reduceEq, Int.reduceLT, Int.reduceBEq, Int.reduceBNe]
                refine ops_callM (s := 0) (ver := 0) [] [intP ((d : Nat) : Int), intP ((e : Nat) : Int), intP ((b : Nat) : Int), .clo F [.bx p]] (IH (by omega) hv.1 hv.2 (by omega) (by omega) yn y4 y5 y6 yD hZ) (by simp only [intP, AW, reduceAdd, reduceCtorEq, reduceEqDiff, ↓reduceIte, reduceLT, reduceLeDiff, reduceSub, reducePow, reduceMul, reduceToNat, reduceLE, reduceEq, Int.reduceLT, Int.reduceBEq, Int.reduceBNe]) (by simp only [AW, reduceAdd, reduceCtorEq, reduceEqDiff, ↓reduceIte, reduceLT, reduceLeDiff, reduceSub, reducePow, reduceMul, reduceToNat, reduceLE, reduceEq, Int.reduceLT, Int.reduceBEq, Int.reduceBNe]) (by simp only [intP, List.not_mem_nil, AW, reduceAdd, reduceCtorEq, reduceEqDiff, ↓reduceIte, reduceLT, reduceLeDiff, reduceSub, reducePow, reduceMul, reduceToNat, reduceLE, reduceEq, Int.reduceLT, Int.reduceBEq, Int.reduceBNe]) (by simp only [AW, reduceAdd, reduceCtorEq, reduceEqDiff, ↓reduceIte, reduceLT, reduceLeDiff, reduceSub, reducePow, reduceMul, reduceToNat, reduceLE, reduceEq, Int.reduceLT, Int.reduceBEq, Int.reduceBNe]) (by simp only [intP, AW, reduceAdd, reduceCtorEq, reduceEqDiff, ↓reduceIte, reduceLT, reduceLeDiff, reduceSub, reducePow, reduceMul, reduceToNat, reduceLE, reduceEq, Int.reduceLT, Int.reduceBEq, Int.reduceBNe]) ?_; simp only [intP, AW, reduceAdd, reduceCtorEq, reduceEqDiff, ↓reduceIte, reduceLT, reduceLeDiff, reduceSub, reducePow, reduceMul, reduceToNat, reduceLE, reduceEq, Int.reduceLT, Int.reduceBEq, Int.reduceBNe]
                (try simp only [run_nil, endM, AW, reduceAdd, reduceCtorEq, reduceEqDiff, ↓reduceIte, reduceLT, reduceLeDiff, reduceSub, reducePow, reduceMul, reduceToNat, reduceLE, reduceEq, Int.reduceLT, Int.reduceBEq, Int.reduceBNe])
              · by_cases e3 : d < e
                · have e1 : decide (((d : Nat) : Int) < ((e : Nat) : Int)) = true := by rw [dlt, decide_eq_true_eq]; exact e3
                  have e2 : decide (((e : Nat) : Int) < ((b : Nat) : Int)) = false := by rw [dlt, decide_eq_false_iff_not]; exact fun h => hv ⟨e3, h⟩
                  simp only [e1, e2, AW, reduceAdd, reduceCtorEq, reduceEqDiff, ↓reduceIte, reduceLT, reduceLeDiff, reduceSub, reducePow, reduceMul, reduceToNat, reduceLE, reduceEq, Int.reduceLT, Int.reduceBEq, Int.reduceBNe]
                  have eZY : Z = Y := Srt.unique hc.sto (by omega) (by omega) hZ (Srt.refl (by
                    by_cases h : d < e
                    · have : e = b := by omega
                      subst this; exact y4
                    · have : e = d := by omega
                      subst this; exact y5))
                  simp only [run_nil, endM, eZY, AW, reduceAdd, reduceCtorEq, reduceEqDiff, ↓reduceIte, reduceLT, reduceLeDiff, reduceSub, reducePow, reduceMul, reduceToNat, reduceLE, reduceEq, Int.reduceLT, Int.reduceBEq, Int.reduceBNe]
                · have e1 : decide (((d : Nat) : Int) < ((e : Nat) : Int)) = false := by rw [dlt, decide_eq_false_iff_not]; exact e3
                  simp only [e1, AW, reduceAdd, reduceCtorEq, reduceEqDiff, ↓reduceIte, reduceLT, reduceLeDiff, reduceSub, reducePow, reduceMul, reduceToNat, reduceLE, reduceEq, Int.reduceLT, Int.reduceBEq, Int.reduceBNe]
                  have eZY : Z = Y := Srt.unique hc.sto (by omega) (by omega) hZ (Srt.refl (by
                    by_cases h : d < e
                    · have : e = b := by omega
                      subst this; exact y4
                    · have : e = d := by omega
                      subst this; exact y5))
                  simp only [run_nil, endM, eZY, AW, reduceAdd, reduceCtorEq, reduceEqDiff, ↓reduceIte, reduceLT, reduceLeDiff, reduceSub, reducePow, reduceMul, reduceToNat, reduceLE, reduceEq, Int.reduceLT, Int.reduceBEq, Int.reduceBNe]
            · have e1 : decide (((a : Nat) : Int) < ((s : Nat) : Int)) = false := by rw [dlt, decide_eq_false_iff_not]; exact e3
              simp only [e1, AW, reduceAdd, reduceCtorEq, reduceEqDiff, ↓reduceIte, reduceLT, reduceLeDiff, reduceSub, reducePow, reduceMul, reduceToNat, reduceLE, reduceEq, Int.reduceLT, Int.reduceBEq, Int.reduceBNe]
              have eYX : Y = X := Srt.unique hc.sto (by omega) (by omega) hY (Srt.refl (by
                by_cases h : a < s
                · have : s = d := by omega
                  rw [← this]; exact r1
                · have : s = a := by omega
                  rw [this] at r2; exact r2))
              rw [← eYX]
              by_cases hv : d < e ∧ e < b
              · have e1 : decide (((d : Nat) : Int) < ((e : Nat) : Int)) = true := by rw [dlt, decide_eq_true_eq]; exact hv.1
                have e2 : decide (((e : Nat) : Int) < ((b : Nat) : Int)) = true := by rw [dlt, decide_eq_true_eq]; exact hv.2
                simp only [e1, e2, AW, reduceAdd, reduceCtorEq, reduceEqDiff, ↓reduceIte, reduceLT, reduceLeDiff, reduceSub, reducePow, reduceMul, reduceToNat, reduceLE, reduceEq, Int.reduceLT, Int.reduceBEq, Int.reduceBNe]
                refine ops_callM (s := 0) (ver := 0) [] [intP ((d : Nat) : Int), intP ((e : Nat) : Int), intP ((b : Nat) : Int), .clo F [.bx p]] (IH (by omega) hv.1 hv.2 (by omega) (by omega) yn y4 y5 y6 yD hZ) (by simp only [intP, AW, reduceAdd, reduceCtorEq, reduceEqDiff, ↓reduceIte, reduceLT, reduceLeDiff, reduceSub, reducePow, reduceMul, reduceToNat, reduceLE, reduceEq, Int.reduceLT, Int.reduceBEq, Int.reduceBNe]) (by simp only [AW, reduceAdd, reduceCtorEq, reduceEqDiff, ↓reduceIte, reduceLT, reduceLeDiff, reduceSub, reducePow, reduceMul, reduceToNat, reduceLE, reduceEq, Int.reduceLT, Int.reduceBEq, Int.reduceBNe]) (by simp only [intP, List.not_mem_nil, AW, reduceAdd, reduceCtorEq, reduceEqDiff, ↓reduceIte, reduceLT, reduceLeDiff, reduceSub, reducePow, reduceMul, reduceToNat, reduceLE, reduceEq, Int.reduceLT, Int.reduceBEq, Int.reduceBNe]) (by simp only [AW, reduceAdd, reduceCtorEq, reduceEqDiff, ↓reduceIte, reduceLT, reduceLeDiff, reduceSub, reducePow, reduceMul, reduceToNat, reduceLE, reduceEq, Int.reduceLT, Int.reduceBEq, Int.reduceBNe]) (by simp only [intP, AW, reduceAdd, reduceCtorEq, reduceEqDiff, ↓reduceIte, reduceLT, reduceLeDiff, reduceSub, reducePow, reduceMul, reduceToNat, reduceLE, reduceEq, Int.reduceLT, Int.reduceBEq, Int.reduceBNe]) ?_; simp only [intP, AW, reduceAdd, reduceCtorEq, reduceEqDiff, ↓reduceIte, reduceLT, reduceLeDiff, reduceSub, reducePow, reduceMul, reduceToNat, reduceLE, reduceEq, Int.reduceLT, Int.reduceBEq, Int.reduceBNe]
                (try simp only [run_nil, endM, AW, reduceAdd, reduceCtorEq, reduceEqDiff, ↓reduceIte, reduceLT, reduceLeDiff, reduceSub, reducePow, reduceMul, reduceToNat, reduceLE, reduceEq, Int.reduceLT, Int.reduceBEq, Int.reduceBNe])
              · by_cases e3 : d < e
                · have e1 : decide (((d : Nat) : Int) < ((e : Nat) : Int)) = true := by rw [dlt, decide_eq_true_eq]; exact e3
                  have e2 : decide (((e : Nat) : Int) < ((b : Nat) : Int)) = false := by rw [dlt, decide_eq_false_iff_not]; exact fun h => hv ⟨e3, h⟩
                  simp only [e1, e2, AW, reduceAdd, reduceCtorEq, reduceEqDiff, ↓reduceIte, reduceLT, reduceLeDiff, reduceSub, reducePow, reduceMul, reduceToNat, reduceLE, reduceEq, Int.reduceLT, Int.reduceBEq, Int.reduceBNe]
                  have eZY : Z = Y := Srt.unique hc.sto (by omega) (by omega) hZ (Srt.refl (by
                    by_cases h : d < e
                    · have : e = b := by omega
                      subst this; exact y4
                    · have : e = d := by omega
                      subst this; exact y5))
                  simp only [run_nil, endM, eZY, AW, reduceAdd, reduceCtorEq, reduceEqDiff, ↓reduceIte, reduceLT, reduceLeDiff, reduceSub, reducePow, reduceMul, reduceToNat, reduceLE, reduceEq, Int.reduceLT, Int.reduceBEq, Int.reduceBNe]
                · have e1 : decide (((d : Nat) : Int) < ((e : Nat) : Int)) = false := by rw [dlt, decide_eq_false_iff_not]; exact e3
                  simp only [e1, AW, reduceAdd, reduceCtorEq, reduceEqDiff, ↓reduceIte, reduceLT, reduceLeDiff, reduceSub, reducePow, reduceMul, reduceToNat, reduceLE, reduceEq, Int.reduceLT, Int.reduceBEq, Int.reduceBNe]
                  have eZY : Z = Y := Srt.unique hc.sto (by omega) (by omega) hZ (Srt.refl (by
                    by_cases h : d < e
                    · have : e = b := by omega
                      subst this; exact y4
                    · have : e = d := by omega
                      subst this; exact y5))
                  simp only [run_nil, endM, eZY, AW, reduceAdd, reduceCtorEq, reduceEqDiff, ↓reduceIte, reduceLT, reduceLeDiff, reduceSub, reducePow, reduceMul, reduceToNat, reduceLE, reduceEq, Int.reduceLT, Int.reduceBEq, Int.reduceBNe]
        · have e1 : decide (((s : Nat) : Int) < ((m : Nat) : Int)) = false := by rw [dlt, decide_eq_false_iff_not]; exact e3
          simp only [e1, AW, reduceAdd, reduceCtorEq, reduceEqDiff, ↓reduceIte, reduceLT, reduceLeDiff, reduceSub, reducePow, reduceMul, reduceToNat, reduceLE, reduceEq, Int.reduceLT, Int.reduceBEq, Int.reduceBNe]
          have eX : X = l := by rw [hX]; exact rot_same (by omega) (by omega) (by omega) (by omega)
          rw [← eX]
          by_cases hu : a < s ∧ s < d
          · have e1 : decide (((a : Nat) : Int) < ((s : Nat) : Int)) = true := by rw [dlt, decide_eq_true_eq]; exact hu.1
            have e2 : decide (((s : Nat) : Int) < ((d : Nat) : Int)) = true := by rw [dlt, decide_eq_true_eq]; exact hu.2
            simp only [e1, e2, AW, reduceAdd, reduceCtorEq, reduceEqDiff, ↓reduceIte, reduceLT, reduceLeDiff, reduceSub, reducePow, reduceMul, reduceToNat, reduceLE, reduceEq, Int.reduceLT, Int.reduceBEq, Int.reduceBNe]
            refine ops_callM (s := 0) (ver := 0) [] [intP ((a : Nat) : Int), intP ((s : Nat) : Int), intP ((d : Nat) : Int), .clo F [.bx p]] (IH (by omega) hu.1 hu.2 (by omega) (by omega) xn r1 r2 r3 xD hY) (by simp only [intP, AW, reduceAdd, reduceCtorEq, reduceEqDiff, ↓reduceIte, reduceLT, reduceLeDiff, reduceSub, reducePow, reduceMul, reduceToNat, reduceLE, reduceEq, Int.reduceLT, Int.reduceBEq, Int.reduceBNe]) (by simp only [AW, reduceAdd, reduceCtorEq, reduceEqDiff, ↓reduceIte, reduceLT, reduceLeDiff, reduceSub, reducePow, reduceMul, reduceToNat, reduceLE, reduceEq, Int.reduceLT, Int.reduceBEq, Int.reduceBNe]) (by simp only [intP, List.not_mem_nil, AW, reduceAdd, reduceCtorEq, reduceEqDiff, ↓reduceIte, reduceLT, reduceLeDiff, reduceSub, reducePow, reduceMul, reduceToNat, reduceLE, reduceEq, Int.reduceLT, Int.reduceBEq, Int.reduceBNe]) (by simp only [AW, reduceAdd, reduceCtorEq, reduceEqDiff, ↓reduceIte, reduceLT, reduceLeDiff, reduceSub, reducePow, reduceMul, reduceToNat, reduceLE, reduceEq, Int.reduceLT, Int.reduceBEq, Int.reduceBNe]) (by simp only [intP, AW, reduceAdd, reduceCtorEq, reduceEqDiff, ↓reduceIte, reduceLT, reduceLeDiff, reduceSub, reducePow, reduceMul, reduceToNat, reduceLE, reduceEq, Int.reduceLT, Int.reduceBEq, Int.reduceBNe]) ?_; simp only [intP, AW, reduceAdd, reduceCtorEq, reduceEqDiff, ↓reduceIte, reduceLT, reduceLeDiff, reduceSub, reducePow, reduceMul, reduceToNat, reduceLE, reduceEq, Int.reduceLT, Int.reduceBEq, Int.reduceBNe]
            by_cases hv : d < e ∧ e < b
            · have e1 : decide (((d : Nat) : Int) < ((e : Nat) : Int)) = true := by rw [dlt, decide_eq_true_eq]; exact hv.1
              have e2 : decide (((e : Nat) : Int) < ((b : Nat) : Int)) = true := by rw [dlt, decide_eq_true_eq]; exact hv.2
              simp only [e1, e2, AW, reduceAdd, reduceCtorEq, reduceEqDiff, ↓reduceIte, reduceLT, reduceLeDiff, reduceSub, reducePow, reduceMul, reduceToNat, reduceLE, reduceEq, Int.reduceLT, Int.reduceBEq, Int.reduceBNe]
              refine ops_callM (s := 0) (ver := 0) [] [intP ((d : Nat) : Int), intP ((e : Nat) : Int), intP ((b : Nat) : Int), .clo F [.bx p]] (IH (by omega) hv.1 hv.2 (by omega) (by omega) yn y4 y5 y6 yD hZ) (by simp only [intP, AW, reduceAdd, reduceCtorEq, reduceEqDiff, ↓reduceIte, reduceLT, reduceLeDiff, reduceSub, reducePow, reduceMul, reduceToNat, reduceLE, reduceEq, Int.reduceLT, Int.reduceBEq, Int.reduceBNe]) (by simp only [AW, reduceAdd, reduceCtorEq, reduceEqDiff, ↓reduceIte, reduceLT, reduceLeDiff, reduceSub, reducePow, reduceMul, reduceToNat, reduceLE, reduceEq, Int.reduceLT, Int.reduceBEq, Int.reduceBNe]) (by simp only [intP, List.not_mem_nil, AW, reduceAdd, reduceCtorEq, reduceEqDiff, ↓reduceIte, reduceLT, reduceLeDiff, reduceSub, reducePow, reduceMul, reduceToNat, reduceLE, reduceEq, Int.reduceLT, Int.reduceBEq, Int.reduceBNe]) (by simp only [AW, reduceAdd, reduceCtorEq, reduceEqDiff, ↓reduceIte, reduceLT, reduceLeDiff, reduceSub, reducePow, reduceMul, reduceToNat, reduceLE, reduceEq, Int.reduceLT, Int.reduceBEq, Int.reduceBNe]) (by simp only [intP, AW, reduceAdd, reduceCtorEq, reduceEqDiff, ↓reduceIte, reduceLT, reduceLeDiff, reduceSub, reducePow, reduceMul, reduceToNat, reduceLE, reduceEq, Int.reduceLT, Int.reduceBEq, Int.reduceBNe]) ?_; simp only [intP, AW, reduceAdd, reduceCtorEq, reduceEqDiff, ↓reduceIte, reduceLT, reduceLeDiff, reduceSub, reducePow, reduceMul, reduceToNat, reduceLE, reduceEq, Int.reduceLT, Int.reduceBEq, Int.reduceBNe]
              (try simp only [run_nil, endM, AW, reduceAdd, reduceCtorEq, reduceEqDiff, ↓reduceIte, reduceLT, reduceLeDiff, reduceSub, reducePow, reduceMul, reduceToNat, reduceLE, reduceEq, Int.reduceLT, Int.reduceBEq, Int.reduceBNe])
            · by_cases e3 : d < e
              · have e1 : decide (((d : Nat) : Int) < ((e : Nat) : Int)) = true := by rw [dlt, decide_eq_true_eq]; exact e3
                have e2 : decide (((e : Nat) : Int) < ((b : Nat) : Int)) = false := by rw [dlt, decide_eq_false_iff_not]; exact fun h => hv ⟨e3, h⟩
                simp only [e1, e2, AW, reduceAdd, reduceCtorEq, reduceEqDiff, ↓reduceIte, reduceLT, reduceLeDiff, reduceSub, reducePow, reduceMul, reduceToNat, reduceLE, reduceEq, Int.reduceLT, Int.reduceBEq, Int.reduceBNe]
                have eZY : Z = Y := Srt.unique hc.sto (by omega) (by omega) hZ (Srt.refl (by
                  by_cases h : d < e
                  · have : e = b := by omega
                    subst this; exact y4
                  · have : e = d := by omega
                    subst this; exact y5))
                simp only [run_nil, endM, eZY, AW, reduceAdd, reduceCtorEq, reduceEqDiff, ↓reduceIte, reduceLT, reduceLeDiff, reduceSub, reducePow, reduceMul, reduceToNat, reduceLE, reduceEq, Int.reduceLT, Int.reduceBEq, Int.reduceBNe]
              · have e1 : decide (((d : Nat) : Int) < ((e : Nat) : Int)) = false := by rw [dlt, decide_eq_false_iff_not]; exact e3
                simp only [e1, AW, reduceAdd, reduceCtorEq, reduceEqDiff, ↓reduceIte, reduceLT, reduceLeDiff, reduceSub, reducePow, reduceMul, reduceToNat, reduceLE, reduceEq, Int.reduceLT, Int.reduceBEq, Int.reduceBNe]
                have eZY : Z = Y := Srt.unique hc.sto (by omega) (by omega) hZ (Srt.refl (by
                  by_cases h : d < e
                  · have : e = b := by omega
                    subst this; exact y4
                  · have : e = d := by omega
                    subst this; exact y5))
                simp only [run_nil, endM, eZY, AW, reduceAdd, reduceCtorEq, reduceEqDiff, ↓reduceIte, reduceLT, reduceLeDiff, reduceSub, reducePow, reduceMul, reduceToNat, reduceLE, reduceEq, Int.reduceLT, Int.reduceBEq, Int.reduceBNe]
          · by_cases e3 : a < s
            · have e1 : decide (((a : Nat) : Int) < ((s : Nat) : Int)) = true := by rw [dlt, decide_eq_true_eq]; exact e3
              have e2 : decide (((s : Nat) : Int) < ((d : Nat) : Int)) = false := by rw [dlt, decide_eq_false_iff_not]; exact fun h => hu ⟨e3, h⟩
              simp only [e1, e2, AW, reduceAdd, reduceCtorEq, reduceEqDiff, ↓reduceIte, reduceLT, reduceLeDiff, reduceSub, reducePow, reduceMul, reduceToNat, reduceLE, reduceEq, Int.reduceLT, Int.reduceBEq, Int.reduceBNe]
              have eYX : Y = X := Srt.unique hc.sto (by omega) (by omega) hY (Srt.refl (by
                by_cases h : a < s
                · have : s = d := by omega
                  rw [← this]; exact r1
                · have : s = a := by omega
                  rw [this] at r2; exact r2))
              rw [← eYX]
              by_cases hv : d < e ∧ e < b
              · have e1 : decide (((d : Nat) : Int) < ((e : Nat) : Int)) = true := by rw [dlt, decide_eq_true_eq]; exact hv.1
                have e2 : decide (((e : Nat) : Int) < ((b : Nat) : Int)) = true := by rw [dlt, decide_eq_true_eq]; exact hv.2
                simp only [e1, e2, AW, reduceAdd, reduceCtorEq, reduceEqDiff, ↓reduceIte, reduceLT, reduceLeDiff, reduceSub, reducePow, reduceMul, reduceToNat, reduceLE, reduceEq, Int.reduceLT, Int.reduceBEq, Int.reduceBNe]
                refine ops_callM (s := 0) (ver := 0) [] [intP ((d : Nat) : Int), intP ((e : Nat) : Int), intP ((b : Nat) : Int), .clo F [.bx p]] (IH (by omega) hv.1 hv.2 (by omega) (by omega) yn y4 y5 y6 yD hZ) (by simp only [intP, AW, reduceAdd, reduceCtorEq, reduceEqDiff, ↓reduceIte, reduceLT, reduceLeDiff, reduceSub, reducePow, reduceMul, reduceToNat, reduceLE, reduceEq, Int.reduceLT, Int.reduceBEq, Int.reduceBNe]) (by simp only [AW, reduceAdd, reduceCtorEq, reduceEqDiff, ↓reduceIte, reduceLT, reduceLeDiff, reduceSub, reducePow, reduceMul, reduceToNat, reduceLE, reduceEq, Int.reduceLT, Int.reduceBEq, Int.reduceBNe]) (by simp only [intP, List.not_mem_nil, AW, reduceAdd, reduceCtorEq, reduceEqDiff, ↓reduceIte, reduceLT, reduceLeDiff, reduceSub, reducePow, reduceMul, reduceToNat, reduceLE, reduceEq, Int.reduceLT, Int.reduceBEq, Int.reduceBNe]) (by simp only [AW, reduceAdd, reduceCtorEq, reduceEqDiff, ↓reduceIte, reduceLT, reduceLeDiff, reduceSub, reducePow, reduceMul, reduceToNat, reduceLE, reduceEq, Int.reduceLT, Int.reduceBEq, Int.reduceBNe]) (by simp only [intP, AW, reduceAdd, reduceCtorEq, reduceEqDiff, ↓reduceIte, reduceLT, reduceLeDiff, reduceSub, reducePow, reduceMul, reduceToNat, reduceLE, reduceEq, Int.reduceLT, Int.reduceBEq, Int.reduceBNe]) ?_; simp only [intP, AW, reduceAdd, reduceCtorEq, reduceEqDiff, ↓reduceIte, reduceLT, reduceLeDiff, reduceSub, reducePow, reduceMul, reduceToNat, reduceLE, reduceEq, Int.reduceLT, Int.reduceBEq, Int.reduceBNe]
                (try simp only [run_nil, endM, AW, reduceAdd, reduceCtorEq, reduceEqDiff, ↓reduceIte, reduceLT, reduceLeDiff, reduceSub, reducePow, reduceMul, reduceToNat, reduceLE, reduceEq, Int.reduceLT, Int.reduceBEq, Int.reduceBNe])
              · by_cases e3 : d < e
                · have e1 : decide (((d : Nat) : Int) < ((e : Nat) : Int)) = true := by rw [dlt, decide_eq_true_eq]; exact e3
                  have e2 : decide (((e : Nat) : Int) < ((b : Nat) : Int)) = false := by rw [dlt, decide_eq_false_iff_not]; exact fun h => hv ⟨e3, h⟩
                  simp only [e1, e2, AW, reduceAdd, reduceCtorEq, reduceEqDiff, ↓reduceIte, reduceLT, reduceLeDiff, reduceSub, reducePow, reduceMul, reduceToNat, reduceLE, reduceEq, Int.reduceLT, Int.reduceBEq, Int.reduceBNe]
                  have eZY : Z = Y := Srt.unique hc.sto (by omega) (by omega) hZ (Srt.refl (by
                    by_cases h : d < e
                    · have : e = b := by omega
                      subst this; exact y4
                    · have : e = d := by omega
                      subst this; exact y5))
                  simp only [run_nil, endM, eZY, AW, reduceAdd, reduceCtorEq, reduceEqDiff, ↓reduceIte, reduceLT, reduceLeDiff, reduceSub, reducePow, reduceMul, reduceToNat, reduceLE, reduceEq, Int.reduceLT, Int.reduceBEq, Int.reduceBNe]
                · have e1 : decide (((d : Nat) : Int) < ((e : Nat) : Int)) = false := by rw [dlt, decide_eq_false_iff_not]; exact e3
                  simp only [e1, AW, reduceAdd, reduceCtorEq, reduceEqDiff, ↓reduceIte, reduceLT, reduceLeDiff, reduceSub, reducePow, reduceMul, reduceToNat, reduceLE, reduceEq, Int.reduceLT, Int.reduceBEq, Int.reduceBNe]
                  have eZY : Z = Y := Srt.unique hc.sto (by omega) (by omega) hZ (Srt.refl (by
                    by_cases h : d < e
                    · have : e = b := by omega
                      subst this; exact y4
                    · have : e = d := by omega
                      subst this; exact y5))
                  simp only [run_nil, endM, eZY, AW, reduceAdd, reduceCtorEq, reduceEqDiff, ↓reduceIte, reduceLT, reduceLeDiff, reduceSub, reducePow, reduceMul, reduceToNat, reduceLE, reduceEq, Int.reduceLT, Int.reduceBEq, Int.reduceBNe]
            · have e1 : decide (((a : Nat) : Int) < ((s : Nat) : Int)) = false := by rw [dlt, decide_eq_false_iff_not]; exact e3
              simp only [e1, AW, reduceAdd, reduceCtorEq, reduceEqDiff, ↓reduceIte, reduceLT, reduceLeDiff, reduceSub, reducePow, reduceMul, reduceToNat, reduceLE, reduceEq, Int.reduceLT, Int.reduceBEq, Int.reduceBNe]
              have eYX : Y = X := Srt.unique hc.sto (by omega) (by omega) hY (Srt.refl (by
                by_cases h : a < s
                · have : s = d := by omega
                  rw [← this]; exact r1
                · have : s = a := by omega
                  rw [this] at r2; exact r2))
              rw [← eYX]
              by_cases hv : d < e ∧ e < b
              · have e1 : decide (((d : Nat) : Int) < ((e : Nat) : Int)) = true := by rw [dlt, decide_eq_true_eq]; exact hv.1
                have e2 : decide (((e : Nat) : Int) < ((b : Nat) : Int)) = true := by rw [dlt, decide_eq_true_eq]; exact hv.2
                simp only [e1, e2, AW, reduceAdd, reduceCtorEq, reduceEqDiff, ↓reduceIte, reduceLT, reduceLeDiff, reduceSub, reducePow, reduceMul, reduceToNat, reduceLE, reduceEq, Int.reduceLT, Int.reduceBEq, Int.reduceBNe]
                refine ops_callM (s := 0) (ver := 0) [] [intP ((d : Nat) : Int), intP ((e : Nat) : Int), intP ((b : Nat) : Int), .clo F [.bx p]] (IH (by omega) hv.1 hv.2 (by omega) (by omega) yn y4 y5 y6 yD hZ) (by simp only [intP, AW, reduceAdd, reduceCtorEq, reduceEqDiff, ↓reduceIte, reduceLT, reduceLeDiff, reduceSub, reducePow, reduceMul, reduceToNat, reduceLE, reduceEq, Int.reduceLT, Int.reduceBEq, Int.reduceBNe]) (by simp only [AW, reduceAdd, reduceCtorEq, reduceEqDiff, ↓reduceIte, reduceLT, reduceLeDiff, reduceSub, reducePow, reduceMul, reduceToNat, reduceLE, reduceEq, Int.reduceLT, Int.reduceBEq, Int.reduceBNe]) (by simp only [intP, List.not_mem_nil, AW, reduceAdd, reduceCtorEq, reduceEqDiff, ↓reduceIte, reduceLT, reduceLeDiff, reduceSub, reducePow, reduceMul, reduceToNat, reduceLE, reduceEq, Int.reduceLT, Int.reduceBEq, Int.reduceBNe]) (by simp only [AW, reduceAdd, reduceCtorEq, reduceEqDiff, ↓reduceIte, reduceLT, reduceLeDiff, reduceSub, reducePow, reduceMul, reduceToNat, reduceLE, reduceEq, Int.reduceLT, Int.reduceBEq, Int.reduceBNe]) (by simp only [intP, AW, reduceAdd, reduceCtorEq, reduceEqDiff, ↓reduceIte, reduceLT, reduceLeDiff, reduceSub, reducePow, reduceMul, reduceToNat, reduceLE, reduceEq, Int.reduceLT, Int.reduceBEq, Int.reduceBNe]) ?_; simp only [intP, AW, reduceAdd, reduceCtorEq, reduceEqDiff, ↓reduceIte, reduceLT, reduceLeDiff, reduceSub, reducePow, reduceMul, reduceToNat, reduceLE, reduceEq, Int.reduceLT, Int.reduceBEq, Int.reduceBNe]
                (try simp only [run_nil, endM, AW, reduceAdd, reduceCtorEq, reduceEqDiff, ↓reduceIte, reduceLT, reduceLeDiff, reduceSub, reducePow, reduceMul, reduceToNat, reduceLE, reduceEq, Int.reduceLT, Int.reduceBEq, Int.reduceBNe])
              · by_cases e3 : d < e
                · have e1 : decide (((d : Nat) : Int) < ((e : Nat) : Int)) = true := by rw [dlt, decide_eq_true_eq]; exact e3
                  have e2 : decide (((e : Nat) : Int) < ((b : Nat) : Int)) = false := by rw [dlt, decide_eq_false_iff_not]; exact fun h => hv ⟨e3, h⟩
                  simp only [e1, e2, AW, reduceAdd, reduceCtorEq, reduceEqDiff, ↓reduceIte, reduceLT, reduceLeDiff, reduceSub, reducePow, reduceMul, reduceToNat, reduceLE, reduceEq, Int.reduceLT, Int.reduceBEq, Int.reduceBNe]
                  have eZY : Z = Y := Srt.unique hc.sto (by omega) (by omega) hZ (Srt.refl (by
                    by_cases h : d < e
                    · have : e = b := by omega
                      subst this; exact y4
                    · have : e = d := by omega
                      subst this; exact y5))
                  simp only [run_nil, endM, eZY, AW, reduceAdd, reduceCtorEq, reduceEqDiff, ↓reduceIte, reduceLT, reduceLeDiff, reduceSub, reducePow, reduceMul, reduceToNat, reduceLE, reduceEq, Int.reduceLT, Int.reduceBEq, Int.reduceBNe]
                · have e1 : decide (((d : Nat) : Int) < ((e : Nat) : Int)) = false := by rw [dlt, decide_eq_false_iff_not]; exact e3
                  simp only [e1, AW, reduceAdd, reduceCtorEq, reduceEqDiff, ↓reduceIte, reduceLT, reduceLeDiff, reduceSub, reducePow, reduceMul, reduceToNat, reduceLE, reduceEq, Int.reduceLT, Int.reduceBEq, Int.reduceBNe]
                  have eZY : Z = Y := Srt.unique hc.sto (by omega) (by omega) hZ (Srt.refl (by
                    by_cases h : d < e
                    · have : e = b := by omega
                      subst this; exact y4
                    · have : e = d := by omega
                      subst this; exact y5))
                  simp only [run_nil, endM, eZY, AW, reduceAdd, reduceCtorEq, reduceEqDiff, ↓reduceIte, reduceLT, reduceLeDiff, reduceSub, reducePow, reduceMul, reduceToNat, reduceLE, reduceEq, Int.reduceLT, Int.reduceBEq, Int.reduceBNe]
    have d1 : decide ((s : Int) < (r : Int)) = true := by rw [dlt, decide_eq_true_eq]; exact hlt
    have wh := half_w (a := s) (b := r) (n := l.length) (by omega) (by omega)
    obtain ⟨h, hh⟩ : ∃ h, h = (s + r) / 2 := ⟨_, rfl⟩
    rw [← hh] at wh
    have q1 : s ≤ h := by omega
    have q2 : h < r := by omega
    have bh : h < l.length := by omega
    have wp := wS (a := d + m - 1) (b := h) (by omega) (by omega)
    have bp : d + m - 1 - h < l.length := by omega
    have wh1 := w1N (a := h) (n := l.length) bh (by omega)
    have ho := ko h (d + m - 1 - h) (by omega) (by omega) (by omega) (by omega)
    have hcmp := hc.neg (el l (d + m - 1 - h)) (el l h) (hD _ (el_mem bp)) (hD _ (el_mem bh)) ho
    have hne : el l (d + m - 1 - h) ≠ el l h := by omega
    simp only [d1, wh, bh, wp, bp, map_el bh, map_el bp, List.length_map, AW, reduceAdd, reduceCtorEq, reduceEqDiff, ↓reduceIte, reduceLT, reduceLeDiff, reduceSub, reducePow, reduceMul, reduceToNat, reduceLE, reduceEq, Int.reduceLT, Int.reduceBEq, Int.reduceBNe]
    refine ops_callC (cs := [.bx p]) hf hn1 hn2 (by simp only [AW, reduceAdd, reduceCtorEq, reduceEqDiff, ↓reduceIte, reduceLT, reduceLeDiff, reduceSub, reducePow, reduceMul, reduceToNat, reduceLE, reduceEq, Int.reduceLT, Int.reduceBEq, Int.reduceBNe]) (hc.good (el l (d + m - 1 - h)) (el l h) (hD _ (el_mem bp)) (hD _ (el_mem bh))) (by simp only [intP, AW, reduceAdd, reduceCtorEq, reduceEqDiff, ↓reduceIte, reduceLT, reduceLeDiff, reduceSub, reducePow, reduceMul, reduceToNat, reduceLE, reduceEq, Int.reduceLT, Int.reduceBEq, Int.reduceBNe]) ?_
    simp only [intP, AW, reduceAdd, reduceCtorEq, reduceEqDiff, ↓reduceIte, reduceLT, reduceLeDiff, reduceSub, reducePow, reduceMul, reduceToNat, reduceLE, reduceEq, Int.reduceLT, Int.reduceBEq, Int.reduceBNe]
    refine drawnK rfl ?_
    by_cases ht : cf (el l (d + m - 1 - h)) (el l h) < 0
    · have d3 : decide (cf (el l (d + m - 1 - h)) (el l h) < 0) = true := decide_eq_true ht
      simp only [d3, AW, reduceAdd, reduceCtorEq, reduceEqDiff, ↓reduceIte, reduceLT, reduceLeDiff, reduceSub, reducePow, reduceMul, reduceToNat, reduceLE, reduceEq, Int.reduceLT, Int.reduceBEq, Int.reduceBNe]
      refine ⟨(s, h), ⟨g1, q1, by simp only; omega, g4, .inr (hcmp.1 ht)⟩, ?_, by simp only; omega⟩
      simp only [LW, Nat.reduceMod, Nat.reduceDiv, intP, AW, reduceAdd, reduceCtorEq, reduceEqDiff, ↓reduceIte, reduceLT, reduceLeDiff, reduceSub, reducePow, reduceMul, reduceToNat, reduceLE, reduceEq, Int.reduceLT, Int.reduceBEq, Int.reduceBNe]
    · have d3 : decide (cf (el l (d + m - 1 - h)) (el l h) < 0) = false := decide_eq_false ht
      simp only [d3, wh1, AW, reduceAdd, reduceCtorEq, reduceEqDiff, ↓reduceIte, reduceLT, reduceLeDiff, reduceSub, reducePow, reduceMul, reduceToNat, reduceLE, reduceEq, Int.reduceLT, Int.reduceBEq, Int.reduceBNe]
      have hla : lt (el l h) (el l (d + m - 1 - h)) := (hc.sto.tri hne).elim (fun h => absurd (hcmp.2 h) ht) id
      refine ⟨(h + 1, r), ⟨by simp only; omega, by simp only; omega, g3, .inr (by simp only [Nat.add_sub_cancel]; rw [show d + m - (h + 1) = d + m - 1 - h by omega]; exact hla), g5⟩, ?_, by simp only; omega⟩
      simp only [LW, Nat.reduceMod, Nat.reduceDiv, intP, AW, reduceAdd, reduceCtorEq, reduceEqDiff, ↓reduceIte, reduceLT, reduceLeDiff, reduceSub, reducePow, reduceMul, reduceToNat, reduceLE, reduceEq, Int.reduceLT, Int.reduceBEq, Int.reduceBNe]
theorem symMerge_m {F : FuncId} {p : PV} {cf : Int → Int → Int} {lt : Int → Int → Prop} {D : Int → Prop} (hc : CmpOk F p cf lt D) : ∀ (N : Nat) {a m b : Nat} {l l2 : List Int} (hN : b - a ≤ N) (ham : a < m) (hmb : m < b) (hb : b ≤ l.length) (hl : l.length ≤ 1000000) (hn : l.Nodup) (k1 : SortedOn lt l a m) (k2 : SortedOn lt l m b) (ko : OrdOn l a m b) (hD : ∀ x ∈ l, D x) (h1 : Srt lt a b l l2), GoodM Tryd.prog 55 [] [intP (a : Int), intP (m : Int), intP (b : Int), .clo F [.bx p]] 3 1 (l.map intP) (.tup []) (l2.map intP)
  | 0, a, m, b, l, l2, hN, ham, hmb, _, _, _, _, _, _, _, _ => by omega
  | N + 1, a, m, b, l, l2, hN, ham, hmb, hb, hl, hn, k1, k2, ko, hD, h1 => by
    by_cases hc1 : m - a = 1
    · exact symA hc hN ham hmb hb hl hn k1 k2 ko hD h1 hc1
    by_cases hc2 : b - m = 1
    · exact symB hc hN ham hmb hb hl hn k1 k2 ko hD h1 hc1 hc2
    · exact symC hc (symMerge_m hc N) hN ham hmb hb hl hn k1 k2 ko hD h1 hc1 hc2


end Go.Proofs.YtjlhnlfalomenaaDoor
