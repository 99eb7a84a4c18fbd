/-
  slices.SortStableFunc, walked.
-/
import Derived.Test.YtjlhnlfalomenaaDoorSu
namespace Go.Proofs.YtjlhnlfalomenaaDoor
open Go.RowKit
open Nat (reduceAdd reduceEqDiff reduceLT reduceLeDiff reduceSub reducePow reduceMul)
open Int (reduceToNat reduceLE reduceEq)
set_option linter.unusedVariables false
set_option linter.unusedSimpArgs false
set_option linter.unnecessarySimpa false

theorem n20 : ((20 : Nat) : Int) = 20 := rfl
theorem dvd_gap {s a c : Nat} (h1 : s ∣ a) (h2 : s ∣ c) (h : a < c) : a + s ≤ c := by
  have := Nat.le_of_dvd (by omega) (Nat.dvd_sub h2 h1)
  omega
theorem w2m {b n : Nat} (h : 2 * b ≤ n) (hn : n ≤ maxLen) : IntKind.wrap .i64 ((2 : Int) * (b : Int)) = ((2 * b : Nat) : Int) := by
  unfold maxLen at hn
  rw [wrap_id (by unfold I64; omega)]; omega
theorem wm2 {b n : Nat} (h : 2 * b ≤ n) (hn : n ≤ maxLen) : IntKind.wrap .i64 ((b : Int) * 2) = ((2 * b : Nat) : Int) := by
  unfold maxLen at hn
  rw [wrap_id (by unfold I64; omega)]; omega
def cut0 (a : Nat) : Nat → Prop := fun c => c ≤ a → 20 ∣ c
def cut2 (s a : Nat) : Nat → Prop := fun c => s ∣ c ∧ (c ≤ a → 2 * s ∣ c)
theorem cut2_start {s c : Nat} (h : 0 < c) : cut2 s 0 c ↔ s ∣ c := ⟨fun h => h.1, fun h2 => ⟨h2, fun h3 => by omega⟩⟩
theorem cut2_next {s a c : Nat} (hs : 0 < s) (ha : 2 * s ∣ a) : cut2 s (a + 2 * s) c ↔ (cut2 s a c ∧ ¬(a < c ∧ c < a + 2 * s)) := by
  constructor
  · rintro ⟨h1, h2⟩
    refine ⟨⟨h1, fun h3 => h2 (by omega)⟩, fun h3 => ?_⟩
    have := dvd_gap ha (h2 (by omega)) h3.1
    omega
  · rintro ⟨⟨h1, h2⟩, h3⟩
    refine ⟨h1, fun h4 => ?_⟩
    by_cases h5 : c ≤ a
    · exact h2 h5
    · have : c = a + 2 * s := by omega
      rw [this]; exact Nat.dvd_add ha (Nat.dvd_refl _)
theorem s_dvd {s a : Nat} (h : 2 * s ∣ a) : s ∣ a := Nat.dvd_trans (Nat.dvd_mul_left _ _) h
theorem cut2_lt {s a c n : Nat} (ha : 2 * s ∣ a) (hn : n < a + 2 * s) (hc : c < n) : 2 * s ∣ c ↔ (cut2 s a c ∧ ¬(a < c ∧ c < n)) := by
  constructor
  · intro h
    refine ⟨⟨s_dvd h, fun _ => h⟩, fun h3 => ?_⟩
    have := dvd_gap ha h h3.1
    omega
  · rintro ⟨⟨h1, h2⟩, h3⟩
    exact h2 (by omega)
theorem cut2_ge {s a c n : Nat} (ha : 2 * s ∣ a) (hn : n ≤ a + s) (hc : c < n) : 2 * s ∣ c ↔ cut2 s a c := by
  constructor
  · intro h; exact ⟨s_dvd h, fun _ => h⟩
  · rintro ⟨h1, h2⟩
    by_cases h5 : c ≤ a
    · exact h2 h5
    · have := dvd_gap (s_dvd ha) h1 (by omega); omega
theorem blk_sorted {lt : Int → Int → Prop} {s a b c n : Nat} {l : List Int} (h : Blk lt (cut2 s a) l n) (hb : s ∣ b) (hc : c ≤ b + s) (hn : c ≤ n) : SortedOn lt l b c := fun i j q1 q2 q3 =>
  h.1 i j q2 (by omega) (fun c' p1 p2 hk => by have := dvd_gap hb hk.1 (by omega); omega)
theorem blk_ord {lt : Int → Int → Prop} {s a b n : Nat} {l : List Int} (h : Blk lt (cut2 s a) l n) (ha : s ∣ a) (hs : 0 < s) (hn : b ≤ n) : OrdOn l a (a + s) b := fun i j q1 q2 q3 q4 =>
  h.2 i j (a + s) q2 q3 (by omega) ⟨Nat.dvd_add ha (Nat.dvd_refl _), fun h => by omega⟩
theorem nodup_of {l : List Int} (ho : ∀ i j, i < j → j < l.length → el l i < el l j) : l.Nodup := by
  rw [List.nodup_iff_pairwise_ne, List.pairwise_iff_getElem]
  intro i j hi hj hij
  rw [el_eq, el_eq]
  have := ho i j hij hj
  omega
set_option maxHeartbeats 4000000 in
theorem stable_m {F : FuncId} {p : PV} {cf : Int → Int → Int} {lt : Int → Int → Prop} {D : Int → Prop} (hc : CmpOk F p cf lt D) {l l2 : List Int} (hl : l.length ≤ 1000000) (ho : ∀ i j, i < j → j < l.length → el l i < el l j) (hD : ∀ x ∈ l, D x) (h1 : Srt lt 0 l.length l l2) : GoodM Tryd.prog 48 [] [intP (l.length : Int), .clo F [.bx p]] 3 1 (l.map intP) (.tup []) (l2.map intP) := by
  have hm : l.length + 2000000 < maxLen := by unfold maxLen; omega
  have hn := nodup_of ho
  refine goodM48 (by simp) rfl (ints_sc _) ?_
  simp only [ac48, intP, AW, reduceAdd, reduceCtorEq, reduceEqDiff, ↓reduceIte, reduceLT, reduceLeDiff, reduceSub, reducePow, reduceMul, reduceToNat, reduceLE, reduceEq, Int.reduceLT, Int.reduceBEq, Int.reduceBNe]
  refine run_loop (ι := Nat × List Int) (fun x => ⟨[(0, .own 0 0), (1, .sc (.int .i64 ((l.length : Nat) : Int))), (2, .clo F [.bx p]), (6, .sc (.int .i64 20)), (7, .sc (.int .i64 ((20 * x.1 : Nat) : Int))), (8, .sc (.int .i64 ((20 * x.1 + 20 : Nat) : Int)))], [(0, .row 3 1 0 ((x.2).map intP))], 5, 63⟩) (fun x => 20 * x.1 ≤ l.length ∧ x.2.Perm l ∧ Blk lt (cut0 (20 * x.1)) x.2 l.length) (fun x => l.length - x.1) 5 (fun _ => rfl) (0, l) (by simp only [LW, Nat.reduceMod, Nat.reduceDiv, intP, Nat.mul_zero, Nat.zero_add, Int.natCast_zero, n20, AW, reduceAdd, reduceCtorEq, reduceEqDiff, ↓reduceIte, reduceLT, reduceLeDiff, reduceSub, reducePow, reduceMul, reduceToNat, reduceLE, reduceEq, Int.reduceLT, Int.reduceBEq, Int.reduceBNe]) ⟨by simp, List.Perm.refl _, fun i j q1 q2 q3 => absurd (fun (h : j ≤ 20 * 0) => by omega) (q3 j q1 (Nat.le_refl _)), fun i j c q1 q2 q3 _ => ho i j (by omega) q3⟩ ?_
  rintro ⟨q, L⟩ ⟨g1, g2, g3⟩
  simp only at g1 g2 g3
  have eL := g2.length_eq
  have nL : L.Nodup := g2.nodup_iff.2 hn
  have dL : ∀ x ∈ L, D x := fun x hx => hD x (g2.mem_iff.1 hx)
  rw [← eL] at g3
  have hord : ∀ b, b ≤ L.length → ∀ i j, 20 * q ≤ i → i < j → j < b → el L i < el L j := fun b hb i j q1 q2 q3 => g3.2 i j j q2 (Nat.le_refl _) (by omega) (fun h => by omega)
  by_cases hlt : 20 * q + 20 ≤ l.length
  · have d1 : decide (((20 * q + 20 : Nat) : Int) ≤ (l.length : Int)) = true := by rw [dle, decide_eq_true_eq]; exact hlt
    obtain ⟨L2, hL2⟩ := Srt.exists hc.sto nL (show 20 * q ≤ 20 * q + 20 by omega) (show 20 * q + 20 ≤ L.length by omega)
    have w1 : IntKind.wrap .i64 (((20 * q + 20 : Nat) : Int) + 20) = ((20 * (q + 1) + 20 : Nat) : Int) := by
      have := wN (a := 20 * q + 20) (b := 20) (n := 2000000) (by omega) (by omega)
      rw [show 20 * (q + 1) + 20 = 20 * q + 20 + 20 by omega]; exact this
    have eL2 := hL2.len
    simp only [d1, AW, reduceAdd, reduceCtorEq, reduceEqDiff, ↓reduceIte, reduceLT, reduceLeDiff, reduceSub, reducePow, reduceMul, reduceToNat, reduceLE, reduceEq, Int.reduceLT, Int.reduceBEq, Int.reduceBNe]
    refine ops_callM (s := 0) (ver := 0) [] [intP ((20 * q : Nat) : Int), intP ((20 * q + 20 : Nat) : Int), .clo F [.bx p]] (insertion_m hc L L2 (20 * q) (20 * q + 20) (by omega) (by omega) (by omega) (hord _ (by omega)) dL hL2) (by simp only [intP, AW, reduceAdd, reduceCtorEq, reduceEqDiff, ↓reduceIte, reduceLT, reduceLeDiff, reduceSub, reducePow, reduceMul, reduceToNat, reduceLE, reduceEq, Int.reduceLT, Int.reduceBEq, Int.reduceBNe]) (by simp only [AW, reduceAdd, reduceCtorEq, reduceEqDiff, ↓reduceIte, reduceLT, reduceLeDiff, reduceSub, reducePow, reduceMul, reduceToNat, reduceLE, reduceEq, Int.reduceLT, Int.reduceBEq, Int.reduceBNe]) (by simp only [intP, List.not_mem_nil, AW, reduceAdd, reduceCtorEq, reduceEqDiff, ↓reduceIte, reduceLT, reduceLeDiff, reduceSub, reducePow, reduceMul, reduceToNat, reduceLE, reduceEq, Int.reduceLT, Int.reduceBEq, Int.reduceBNe]) (by simp only [AW, reduceAdd, reduceCtorEq, reduceEqDiff, ↓reduceIte, reduceLT, reduceLeDiff, reduceSub, reducePow, reduceMul, reduceToNat, reduceLE, reduceEq, Int.reduceLT, Int.reduceBEq, Int.reduceBNe]) (by simp only [intP, AW, reduceAdd, reduceCtorEq, reduceEqDiff, ↓reduceIte, reduceLT, reduceLeDiff, reduceSub, reducePow, reduceMul, reduceToNat, reduceLE, reduceEq, Int.reduceLT, Int.reduceBEq, Int.reduceBNe]) ?_; simp only [intP, AW, reduceAdd, reduceCtorEq, reduceEqDiff, ↓reduceIte, reduceLT, reduceLeDiff, reduceSub, reducePow, reduceMul, reduceToNat, reduceLE, reduceEq, Int.reduceLT, Int.reduceBEq, Int.reduceBNe]
    simp only [w1, AW, reduceAdd, reduceCtorEq, reduceEqDiff, ↓reduceIte, reduceLT, reduceLeDiff, reduceSub, reducePow, reduceMul, reduceToNat, reduceLE, reduceEq, Int.reduceLT, Int.reduceBEq, Int.reduceBNe]
    refine ⟨(q + 1, L2), ⟨by simp only; omega, hL2.perm.trans g2, ?_⟩, ?_, by simp only; omega⟩
    · have := g3.sort (a := 20 * q) (b := 20 * q + 20) (by omega) (fun _ _ => by omega) (fun _ h => by omega) (by omega) hL2
      rw [eL] at this
      exact this.congr (fun c q1 q2 => by simp only [cut0]; omega)
    · simp only [LW, Nat.reduceMod, Nat.reduceDiv, intP, show 20 * (q + 1) = 20 * q + 20 from rfl, AW, reduceAdd, reduceCtorEq, reduceEqDiff, ↓reduceIte, reduceLT, reduceLeDiff, reduceSub, reducePow, reduceMul, reduceToNat, reduceLE, reduceEq, Int.reduceLT, Int.reduceBEq, Int.reduceBNe]
  have d1 : decide (((20 * q + 20 : Nat) : Int) ≤ (l.length : Int)) = false := by rw [dle, decide_eq_false_iff_not]; exact hlt
  obtain ⟨L2, hL2⟩ := Srt.exists hc.sto nL (show 20 * q ≤ l.length by omega) (show l.length ≤ L.length by omega)
  have bL2 : Blk lt (fun c => 20 ∣ c) L2 l.length := by
    by_cases hq : 20 * q < l.length
    · have := g3.sort (a := 20 * q) (b := l.length) (by omega) (fun _ _ => by omega) (fun h => by omega) hq hL2
      rw [eL] at this
      exact this.congr (fun c q1 q2 => by simp only [cut0]; omega)
    · have e : L2 = L := Srt.unique hc.sto g1 (by omega) hL2 (Srt.refl (fun i j q1 q2 q3 => by omega))
      rw [e]
      rw [eL] at g3
      exact g3.congr (fun c q1 q2 => by simp only [cut0]; omega)
  have pL2 := hL2.perm.trans g2
  simp only [d1, AW, reduceAdd, reduceCtorEq, reduceEqDiff, ↓reduceIte, reduceLT, reduceLeDiff, reduceSub, reducePow, reduceMul, reduceToNat, reduceLE, reduceEq, Int.reduceLT, Int.reduceBEq, Int.reduceBNe]
  refine ops_callM (s := 0) (ver := 0) [] [intP ((20 * q : Nat) : Int), intP ((l.length : Nat) : Int), .clo F [.bx p]] (insertion_m hc L L2 (20 * q) l.length (by omega) (by omega) (by omega) (hord _ (by omega)) dL hL2) (by simp only [intP, AW, reduceAdd, reduceCtorEq, reduceEqDiff, ↓reduceIte, reduceLT, reduceLeDiff, reduceSub, reducePow, reduceMul, reduceToNat, reduceLE, reduceEq, Int.reduceLT, Int.reduceBEq, Int.reduceBNe]) (by simp only [AW, reduceAdd, reduceCtorEq, reduceEqDiff, ↓reduceIte, reduceLT, reduceLeDiff, reduceSub, reducePow, reduceMul, reduceToNat, reduceLE, reduceEq, Int.reduceLT, Int.reduceBEq, Int.reduceBNe]) (by simp only [intP, List.not_mem_nil, AW, reduceAdd, reduceCtorEq, reduceEqDiff, ↓reduceIte, reduceLT, reduceLeDiff, reduceSub, reducePow, reduceMul, reduceToNat, reduceLE, reduceEq, Int.reduceLT, Int.reduceBEq, Int.reduceBNe]) (by simp only [AW, reduceAdd, reduceCtorEq, reduceEqDiff, ↓reduceIte, reduceLT, reduceLeDiff, reduceSub, reducePow, reduceMul, reduceToNat, reduceLE, reduceEq, Int.reduceLT, Int.reduceBEq, Int.reduceBNe]) (by simp only [intP, AW, reduceAdd, reduceCtorEq, reduceEqDiff, ↓reduceIte, reduceLT, reduceLeDiff, reduceSub, reducePow, reduceMul, reduceToNat, reduceLE, reduceEq, Int.reduceLT, Int.reduceBEq, Int.reduceBNe]) ?_; simp only [intP, AW, reduceAdd, reduceCtorEq, reduceEqDiff, ↓reduceIte, reduceLT, reduceLeDiff, reduceSub, reducePow, reduceMul, reduceToNat, reduceLE, reduceEq, Int.reduceLT, Int.reduceBEq, Int.reduceBNe]
  clear hord g3 dL nL eL g2 g1 hL2 d1 hlt
  refine run_loop (ι := Nat × List Int) (fun x => ⟨[(0, .own 0 0), (1, .sc (.int .i64 ((l.length : Nat) : Int))), (2, .clo F [.bx p]), (6, .sc (.int .i64 ((x.1 : Nat) : Int)))], [(0, .row 3 1 0 ((x.2).map intP))], 13, 63⟩) (fun x => 20 ≤ x.1 ∧ x.1 ≤ 2000000 ∧ x.2.Perm l ∧ Blk lt (fun c => x.1 ∣ c) x.2 l.length) (fun x => l.length - x.1) 13 (fun _ => rfl) (20, L2) (by simp only [LW, Nat.reduceMod, Nat.reduceDiv, intP, n20, AW, reduceAdd, reduceCtorEq, reduceEqDiff, ↓reduceIte, reduceLT, reduceLeDiff, reduceSub, reducePow, reduceMul, reduceToNat, reduceLE, reduceEq, Int.reduceLT, Int.reduceBEq, Int.reduceBNe]) ⟨Nat.le_refl _, by simp only; omega, pL2, bL2⟩ ?_
  clear bL2 pL2
  rintro ⟨s, L⟩ ⟨g1, g2, g3, g4⟩
  simp only at g1 g2 g3 g4
  have eL := g3.length_eq
  by_cases hlt : s < l.length
  rotate_left
  · have d1 : decide ((s : Int) < (l.length : Int)) = false := by rw [dlt, decide_eq_false_iff_not]; exact hlt
    have e : L = l2 := Srt.unique hc.sto (Nat.zero_le _) (Nat.le_refl _) ⟨g3, fun i hi => by
        unfold el; rw [List.getD_eq_getElem?_getD, List.getD_eq_getElem?_getD, List.getElem?_eq_none (by omega), List.getElem?_eq_none (by omega)], fun i j q1 q2 q3 => g4.1 i j q2 q3 (fun c p1 p2 hk => by have := Nat.le_of_dvd (by omega) hk; omega)⟩ h1
    simp only [d1, run_nil, endM, e, AW, reduceAdd, reduceCtorEq, reduceEqDiff, ↓reduceIte, reduceLT, reduceLeDiff, reduceSub, reducePow, reduceMul, reduceToNat, reduceLE, reduceEq, Int.reduceLT, Int.reduceBEq, Int.reduceBNe]
  have d1 : decide ((s : Int) < (l.length : Int)) = true := by rw [dlt, decide_eq_true_eq]; exact hlt
  have w2 := w2m (b := s) (n := 2000000) (by omega) (by omega)
  have w3 := wm2 (b := s) (n := 2000000) (by omega) (by omega)
  simp only [d1, w2, AW, reduceAdd, reduceCtorEq, reduceEqDiff, ↓reduceIte, reduceLT, reduceLeDiff, reduceSub, reducePow, reduceMul, reduceToNat, reduceLE, reduceEq, Int.reduceLT, Int.reduceBEq, Int.reduceBNe]
  refine run_loop (ι := Nat × List Int) (fun y => ⟨[(0, .own 0 0), (1, .sc (.int .i64 ((l.length : Nat) : Int))), (2, .clo F [.bx p]), (6, .sc (.int .i64 ((s : Nat) : Int))), (7, .sc (.int .i64 ((y.1 : Nat) : Int))), (8, .sc (.int .i64 ((y.1 + 2 * s : Nat) : Int)))], [(0, .row 3 1 0 ((y.2).map intP))], 20, 63⟩) (fun y => 2 * s ∣ y.1 ∧ y.1 ≤ l.length ∧ y.2.Perm l ∧ Blk lt (cut2 s y.1) y.2 l.length) (fun y => l.length - y.1) 20 (fun _ => rfl) (0, L) (by simp only [LW, Nat.reduceMod, Nat.reduceDiv, intP, Int.natCast_zero, Nat.zero_add, AW, reduceAdd, reduceCtorEq, reduceEqDiff, ↓reduceIte, reduceLT, reduceLeDiff, reduceSub, reducePow, reduceMul, reduceToNat, reduceLE, reduceEq, Int.reduceLT, Int.reduceBEq, Int.reduceBNe]) ⟨Nat.dvd_zero _, Nat.zero_le _, g3, g4.congr (fun c q1 q2 => cut2_start q1)⟩ ?_
  clear g3 g4 eL
  rintro ⟨a, L⟩ ⟨f1, f2, f3, f4⟩
  simp only at f1 f2 f3 f4
  have eL := f3.length_eq
  have nL : L.Nodup := f3.nodup_iff.2 hn
  have dL : ∀ x ∈ L, D x := fun x hx => hD x (f3.mem_iff.1 hx)
  have wa := wN (a := a) (b := s) (n := l.length + 2000000) (by omega) (by omega)
  have sa := s_dvd f1
  have sm : s ∣ a + s := Nat.dvd_add sa (Nat.dvd_refl _)
  by_cases hb : a + 2 * s ≤ l.length
  · have d2 : decide (((a + 2 * s : Nat) : Int) ≤ (l.length : Int)) = true := by rw [dle, decide_eq_true_eq]; exact hb
    have wb := wN (a := a + 2 * s) (b := 2 * s) (n := l.length + 2000000) (by omega) (by omega)
    obtain ⟨L2, hL2⟩ := Srt.exists hc.sto nL (show a ≤ a + 2 * s by omega) (show a + 2 * s ≤ L.length by omega)
    simp only [d2, wa, AW, reduceAdd, reduceCtorEq, reduceEqDiff, ↓reduceIte, reduceLT, reduceLeDiff, reduceSub, reducePow, reduceMul, reduceToNat, reduceLE, reduceEq, Int.reduceLT, Int.reduceBEq, Int.reduceBNe]
    refine ops_callM (s := 0) (ver := 0) [] [intP ((a : Nat) : Int), intP ((a + s : Nat) : Int), intP ((a + 2 * s : Nat) : Int), .clo F [.bx p]] (symMerge_m hc (a + 2 * s - a) (Nat.le_refl _) (by omega) (by omega) (by omega) (by omega) nL (blk_sorted f4 sa (by omega) (by omega)) (blk_sorted f4 sm (by omega) hb) (blk_ord f4 sa (by omega) hb) dL hL2) (by simp only [intP, AW, reduceAdd, reduceCtorEq, reduceEqDiff, ↓reduceIte, reduceLT, reduceLeDiff, reduceSub, reducePow, reduceMul, reduceToNat, reduceLE, reduceEq, Int.reduceLT, Int.reduceBEq, Int.reduceBNe]) (by simp only [AW, reduceAdd, reduceCtorEq, reduceEqDiff, ↓reduceIte, reduceLT, reduceLeDiff, reduceSub, reducePow, reduceMul, reduceToNat, reduceLE, reduceEq, Int.reduceLT, Int.reduceBEq, Int.reduceBNe]) (by simp only [intP, List.not_mem_nil, AW, reduceAdd, reduceCtorEq, reduceEqDiff, ↓reduceIte, reduceLT, reduceLeDiff, reduceSub, reducePow, reduceMul, reduceToNat, reduceLE, reduceEq, Int.reduceLT, Int.reduceBEq, Int.reduceBNe]) (by simp only [AW, reduceAdd, reduceCtorEq, reduceEqDiff, ↓reduceIte, reduceLT, reduceLeDiff, reduceSub, reducePow, reduceMul, reduceToNat, reduceLE, reduceEq, Int.reduceLT, Int.reduceBEq, Int.reduceBNe]) (by simp only [intP, AW, reduceAdd, reduceCtorEq, reduceEqDiff, ↓reduceIte, reduceLT, reduceLeDiff, reduceSub, reducePow, reduceMul, reduceToNat, reduceLE, reduceEq, Int.reduceLT, Int.reduceBEq, Int.reduceBNe]) ?_; simp only [intP, AW, reduceAdd, reduceCtorEq, reduceEqDiff, ↓reduceIte, reduceLT, reduceLeDiff, reduceSub, reducePow, reduceMul, reduceToNat, reduceLE, reduceEq, Int.reduceLT, Int.reduceBEq, Int.reduceBNe]
    simp only [w2, wb, AW, reduceAdd, reduceCtorEq, reduceEqDiff, ↓reduceIte, reduceLT, reduceLeDiff, reduceSub, reducePow, reduceMul, reduceToNat, reduceLE, reduceEq, Int.reduceLT, Int.reduceBEq, Int.reduceBNe]
    refine ⟨(a + 2 * s, L2), ⟨Nat.dvd_add f1 (Nat.dvd_refl _), hb, hL2.perm.trans f3, ?_⟩, ?_, by simp only; omega⟩
    · rw [← eL] at f4
      have := f4.sort (a := a) (b := a + 2 * s) (by omega) (fun _ => ⟨sa, fun _ => f1⟩) (fun _ => ⟨Nat.dvd_add sa (Nat.dvd_mul_left _ _), fun h => by omega⟩) (by omega) hL2
      rw [eL] at this
      exact this.congr (fun c q1 q2 => cut2_next (by omega) f1)
    · simp only [LW, Nat.reduceMod, Nat.reduceDiv, intP, AW, reduceAdd, reduceCtorEq, reduceEqDiff, ↓reduceIte, reduceLT, reduceLeDiff, reduceSub, reducePow, reduceMul, reduceToNat, reduceLE, reduceEq, Int.reduceLT, Int.reduceBEq, Int.reduceBNe]
  have d2 : decide (((a + 2 * s : Nat) : Int) ≤ (l.length : Int)) = false := by rw [dle, decide_eq_false_iff_not]; exact hb
  by_cases hlast : a + s < l.length
  · have d3 : decide (((a + s : Nat) : Int) < (l.length : Int)) = true := by rw [dlt, decide_eq_true_eq]; exact hlast
    obtain ⟨L2, hL2⟩ := Srt.exists hc.sto nL (show a ≤ l.length by omega) (show l.length ≤ L.length by omega)
    simp only [d2, wa, d3, AW, reduceAdd, reduceCtorEq, reduceEqDiff, ↓reduceIte, reduceLT, reduceLeDiff, reduceSub, reducePow, reduceMul, reduceToNat, reduceLE, reduceEq, Int.reduceLT, Int.reduceBEq, Int.reduceBNe]
    refine ops_callM (s := 0) (ver := 0) [] [intP ((a : Nat) : Int), intP ((a + s : Nat) : Int), intP ((l.length : Nat) : Int), .clo F [.bx p]] (symMerge_m hc (l.length - a) (Nat.le_refl _) (by omega) (by omega) (by omega) (by omega) nL (blk_sorted f4 sa (by omega) (by omega)) (blk_sorted f4 sm (by omega) (Nat.le_refl _)) (blk_ord f4 sa (by omega) (Nat.le_refl _)) dL hL2) (by simp only [intP, AW, reduceAdd, reduceCtorEq, reduceEqDiff, ↓reduceIte, reduceLT, reduceLeDiff, reduceSub, reducePow, reduceMul, reduceToNat, reduceLE, reduceEq, Int.reduceLT, Int.reduceBEq, Int.reduceBNe]) (by simp only [AW, reduceAdd, reduceCtorEq, reduceEqDiff, ↓reduceIte, reduceLT, reduceLeDiff, reduceSub, reducePow, reduceMul, reduceToNat, reduceLE, reduceEq, Int.reduceLT, Int.reduceBEq, Int.reduceBNe]) (by simp only [intP, List.not_mem_nil, AW, reduceAdd, reduceCtorEq, reduceEqDiff, ↓reduceIte, reduceLT, reduceLeDiff, reduceSub, reducePow, reduceMul, reduceToNat, reduceLE, reduceEq, Int.reduceLT, Int.reduceBEq, Int.reduceBNe]) (by simp only [AW, reduceAdd, reduceCtorEq, reduceEqDiff, ↓reduceIte, reduceLT, reduceLeDiff, reduceSub, reducePow, reduceMul, reduceToNat, reduceLE, reduceEq, Int.reduceLT, Int.reduceBEq, Int.reduceBNe]) (by simp only [intP, AW, reduceAdd, reduceCtorEq, reduceEqDiff, ↓reduceIte, reduceLT, reduceLeDiff, reduceSub, reducePow, reduceMul, reduceToNat, reduceLE, reduceEq, Int.reduceLT, Int.reduceBEq, Int.reduceBNe]) ?_; simp only [intP, AW, reduceAdd, reduceCtorEq, reduceEqDiff, ↓reduceIte, reduceLT, reduceLeDiff, reduceSub, reducePow, reduceMul, reduceToNat, reduceLE, reduceEq, Int.reduceLT, Int.reduceBEq, Int.reduceBNe]
    simp only [w3, AW, reduceAdd, reduceCtorEq, reduceEqDiff, ↓reduceIte, reduceLT, reduceLeDiff, reduceSub, reducePow, reduceMul, reduceToNat, reduceLE, reduceEq, Int.reduceLT, Int.reduceBEq, Int.reduceBNe]
    refine ⟨(2 * s, L2), ⟨by simp only; omega, by simp only; omega, hL2.perm.trans f3, ?_⟩, ?_, by simp only; omega⟩
    · rw [← eL] at f4
      have := f4.sort (a := a) (b := l.length) (by omega) (fun _ => ⟨sa, fun _ => f1⟩) (fun h => by omega) (by omega) hL2
      rw [eL] at this
      exact this.congr (fun c q1 q2 => cut2_lt f1 (by omega) q2)
    · simp only [LW, Nat.reduceMod, Nat.reduceDiv, intP, AW, reduceAdd, reduceCtorEq, reduceEqDiff, ↓reduceIte, reduceLT, reduceLeDiff, reduceSub, reducePow, reduceMul, reduceToNat, reduceLE, reduceEq, Int.reduceLT, Int.reduceBEq, Int.reduceBNe]
  · have d3 : decide (((a + s : Nat) : Int) < (l.length : Int)) = false := by rw [dlt, decide_eq_false_iff_not]; exact hlast
    simp only [d2, wa, d3, w3, AW, reduceAdd, reduceCtorEq, reduceEqDiff, ↓reduceIte, reduceLT, reduceLeDiff, reduceSub, reducePow, reduceMul, reduceToNat, reduceLE, reduceEq, Int.reduceLT, Int.reduceBEq, Int.reduceBNe]
    refine ⟨(2 * s, L), ⟨by simp only; omega, by simp only; omega, f3, f4.congr (fun c q1 q2 => cut2_ge f1 (by omega) q2)⟩, ?_, by simp only; omega⟩
    simp only [LW, Nat.reduceMod, Nat.reduceDiv, intP, AW, reduceAdd, reduceCtorEq, reduceEqDiff, ↓reduceIte, reduceLT, reduceLeDiff, reduceSub, reducePow, reduceMul, reduceToNat, reduceLE, reduceEq, Int.reduceLT, Int.reduceBEq, Int.reduceBNe]
set_option maxHeartbeats 1000000 in
theorem sortStable_m {F : FuncId} {p : PV} {cf : Int → Int → Int} {lt : Int → Int → Prop} {D : Int → Prop} (hc : CmpOk F p cf lt D) {l l2 : List Int} (hl : l.length ≤ 1000000) (ho : ∀ i j, i < j → j < l.length → el l i < el l j) (hD : ∀ x ∈ l, D x) (h1 : Srt lt 0 l.length l l2) : GoodM Tryd.prog 42 [] [.clo F [.bx p]] 3 1 (l.map intP) (.tup []) (l2.map intP) := by
  refine goodM42 (by simp) rfl (ints_sc _) ?_
  simp only [ac42, List.length_map, AW, reduceAdd, reduceCtorEq, reduceEqDiff, ↓reduceIte, reduceLT, reduceLeDiff, reduceSub, reducePow, reduceMul, reduceToNat, reduceLE, reduceEq, Int.reduceLT, Int.reduceBEq, Int.reduceBNe]
  refine ops_callM (s := 0) (ver := 0) [] [intP ((l.length : Nat) : Int), .clo F [.bx p]] (stable_m hc hl ho hD h1) (by simp only [intP, AW, reduceAdd, reduceCtorEq, reduceEqDiff, ↓reduceIte, reduceLT, reduceLeDiff, reduceSub, reducePow, reduceMul, reduceToNat, reduceLE, reduceEq, Int.reduceLT, Int.reduceBEq, Int.reduceBNe]) (by simp only [AW, reduceAdd, reduceCtorEq, reduceEqDiff, ↓reduceIte, reduceLT, reduceLeDiff, reduceSub, reducePow, reduceMul, reduceToNat, reduceLE, reduceEq, Int.reduceLT, Int.reduceBEq, Int.reduceBNe]) (by simp only [intP, List.not_mem_nil, AW, reduceAdd, reduceCtorEq, reduceEqDiff, ↓reduceIte, reduceLT, reduceLeDiff, reduceSub, reducePow, reduceMul, reduceToNat, reduceLE, reduceEq, Int.reduceLT, Int.reduceBEq, Int.reduceBNe]) (by simp only [AW, reduceAdd, reduceCtorEq, reduceEqDiff, ↓reduceIte, reduceLT, reduceLeDiff, reduceSub, reducePow, reduceMul, reduceToNat, reduceLE, reduceEq, Int.reduceLT, Int.reduceBEq, Int.reduceBNe]) (by simp only [intP, AW, reduceAdd, reduceCtorEq, reduceEqDiff, ↓reduceIte, reduceLT, reduceLeDiff, reduceSub, reducePow, reduceMul, reduceToNat, reduceLE, reduceEq, Int.reduceLT, Int.reduceBEq, Int.reduceBNe]) ?_; simp only [intP, AW, reduceAdd, reduceCtorEq, reduceEqDiff, ↓reduceIte, reduceLT, reduceLeDiff, reduceSub, reducePow, reduceMul, reduceToNat, reduceLE, reduceEq, Int.reduceLT, Int.reduceBEq, Int.reduceBNe]
  simp only [run_nil, endM, AW, reduceAdd, reduceCtorEq, reduceEqDiff, ↓reduceIte, reduceLT, reduceLeDiff, reduceSub, reducePow, reduceMul, reduceToNat, reduceLE, reduceEq, Int.reduceLT, Int.reduceBEq, Int.reduceBNe]


end Go.Proofs.YtjlhnlfalomenaaDoor
