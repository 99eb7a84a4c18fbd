/-
  A line of three numbers, read.
-/
import Derived.Test.YtjnfldkcbcfboaaDoorFn
namespace Go.Proofs.YtjnfldkcbcfboaaDoor
open Go.RowKit
open Nat (reduceAdd reduceEqDiff reduceLT reduceLeDiff reduceSub reducePow reduceMul)
open Int (reduceToNat reduceLE reduceEq)
set_option linter.unusedVariables false
set_option linter.unusedSimpArgs false
set_option linter.unnecessarySimpa false

def W3 (a b c : List UInt8) : Nat → List UInt8
  | 0 => a
  | 1 => b
  | _ => c
def st3 (a b c : List UInt8) : Nat → Nat
  | 0 => 0
  | 1 => a.length + 1
  | 2 => a.length + 1 + (b.length + 1)
  | _ => a.length + 1 + (b.length + 1) + (c.length + 1)
def k3 : Nat → Int
  | 0 => 0
  | 1 => 1
  | 2 => 2
  | _ => 3
def out3 (x y z : Int) : Nat → List PV
  | 0 => [.sc (.int .i64 0), .sc (.int .i64 0), .sc (.int .i64 0)]
  | 1 => [.sc (.int .i64 x), .sc (.int .i64 0), .sc (.int .i64 0)]
  | 2 => [.sc (.int .i64 x), .sc (.int .i64 y), .sc (.int .i64 0)]
  | _ => [.sc (.int .i64 x), .sc (.int .i64 y), .sc (.int .i64 z)]
def txt3 (a b c : List UInt8) : List UInt8 := a ++ 32 :: (b ++ 32 :: c)
theorem gapp (l m : List UInt8) (t : Nat) : (l ++ 32 :: m)[l.length + 1 + t]? = m[t]? := by
  rw [List.getElem?_append_right (by omega), show l.length + 1 + t - l.length = t + 1 by omega, List.getElem?_cons_succ]
theorem gsep (l m : List UInt8) : (l ++ 32 :: m)[l.length]? = some 32 := by
  rw [List.getElem?_append_right (Nat.le_refl _), Nat.sub_self]; rfl
theorem gin {l : List UInt8} (m : List UInt8) {t : Nat} (h : t < l.length) : (l ++ m)[t]? = some l[t] := by
  rw [List.getElem?_append_left h, List.getElem?_eq_getElem h]
theorem dapp (l m : List UInt8) (k : Nat) : (l ++ 32 :: m).drop (l.length + 1 + k) = m.drop k := by
  rw [show l ++ 32 :: m = (l ++ [32]) ++ m by simp, ← List.drop_drop, List.drop_left' (by simp)]
theorem st3_len (a b c : List UInt8) : st3 a b c 3 = (txt3 a b c).length + 1 := by
  unfold txt3 st3; simp; omega
theorem st3_succ (a b c : List UInt8) : ∀ j, j < 3 → st3 a b c (j + 1) = st3 a b c j + (W3 a b c j).length + 1
  | 0, _ => by simp [st3, W3]
  | 1, _ => by simp [st3, W3]; omega
  | 2, _ => by simp [st3, W3]; omega
theorem st3_le (a b c : List UInt8) : ∀ j, j < 3 → st3 a b c j + (W3 a b c j).length ≤ (txt3 a b c).length
  | 0, _ => by simp [st3, W3, txt3]
  | 1, _ => by simp [st3, W3, txt3]; omega
  | 2, _ => by simp [st3, W3, txt3]; omega
theorem ch3 (a b c : List UInt8) : ∀ j, j < 3 → ∀ t (h : t < (W3 a b c j).length), (txt3 a b c)[st3 a b c j + t]? = some (W3 a b c j)[t]
  | 0, _, t, h => by
    show (a ++ _)[0 + t]? = _
    rw [Nat.zero_add]; exact gin _ h
  | 1, _, t, h => by
    show (a ++ 32 :: (b ++ 32 :: c))[a.length + 1 + t]? = _
    rw [gapp]; exact gin _ h
  | 2, _, t, h => by
    show (a ++ 32 :: (b ++ 32 :: c))[a.length + 1 + (b.length + 1) + t]? = _
    rw [Nat.add_assoc (a.length + 1), gapp, gapp]; exact List.getElem?_eq_getElem h
theorem sep3 (a b c : List UInt8) : ∀ j, j < 2 → (txt3 a b c)[st3 a b c j + (W3 a b c j).length]? = some 32
  | 0, _ => by
    show (a ++ _)[0 + a.length]? = _
    rw [Nat.zero_add]; exact gsep _ _
  | 1, _ => by
    show (a ++ 32 :: (b ++ 32 :: c))[a.length + 1 + b.length]? = _
    rw [gapp]; exact gsep _ _
theorem sl3 (a b c : List UInt8) : ∀ j, j < 3 → ((txt3 a b c).take (st3 a b c j + (W3 a b c j).length)).drop (st3 a b c j) = W3 a b c j
  | 0, _ => by
    show ((a ++ _).take (0 + a.length)).drop 0 = _
    rw [Nat.zero_add, List.take_left, List.drop_zero]; rfl
  | 1, _ => by
    show ((a ++ 32 :: (b ++ 32 :: c)).take (a.length + 1 + b.length)).drop (a.length + 1) = _
    have := dapp a (b ++ 32 :: c) 0
    rw [Nat.add_zero, List.drop_zero] at this
    rw [List.drop_take, this, Nat.add_sub_cancel_left, List.take_left]; rfl
  | 2, _ => by
    show ((a ++ 32 :: (b ++ 32 :: c)).take (a.length + 1 + (b.length + 1) + c.length)).drop (a.length + 1 + (b.length + 1)) = _
    have := dapp b c 0
    rw [Nat.add_zero, List.drop_zero] at this
    rw [List.drop_take, dapp, this, Nat.add_sub_cancel_left, List.take_length]; rfl
set_option maxHeartbeats 4000000 in
theorem three_g (a b c : List UInt8) (x y z : Int) (ha : a.length ≤ 100) (hb : b.length ≤ 100) (hc : c.length ≤ 100) (na : (32 : UInt8) ∉ a) (nb : (32 : UInt8) ∉ b) (nc : (32 : UInt8) ∉ c) (pa : parN a 0 = some x) (pb : parN b 0 = some y) (pc : parN c 0 = some z) : Good Tryd.prog 19 [txP (txt3 a b c)] (.tup [.agg [.sc (.int .i64 x), .sc (.int .i64 y), .sc (.int .i64 z)], .sc (.bool true)]) := by
  have hlen : (txt3 a b c).length ≤ 400 := by unfold txt3; simp; omega
  refine good19 (by simp) ?_
  simp only [ac19, AW, reduceAdd, reduceCtorEq, reduceEqDiff, ↓reduceIte, reduceLT, reduceLeDiff, reduceSub, reducePow, reduceMul, reduceToNat, reduceLE, reduceEq, Int.reduceLT, Int.reduceBEq, Int.reduceBNe]
  refine run_loop (ι := Nat × Nat) (fun q => ⟨[(0, txP (txt3 a b c)), (2, .ptr 0 0), (4, .ptr 2 0), (5, .sc (.int .i64 (k3 q.1))), (6, .sc (.int .i64 (st3 a b c q.1 : Int))), (7, .sc (.int .i64 ((st3 a b c q.1 + q.2 : Nat) : Int)))], [(0, .var [.sc (.int .i64 0), .sc (.int .i64 0), .sc (.int .i64 0)]), (2, .var (out3 x y z q.1))], 6, 51⟩) (fun q => (q.1 < 3 ∧ q.2 ≤ (W3 a b c q.1).length) ∨ (q.1 = 3 ∧ q.2 = 0)) (fun q => st3 a b c 3 + 1 - (st3 a b c q.1 + q.2)) 6 (fun _ => rfl) (0, 0) (by simp only [LW, Nat.reduceMod, Nat.reduceDiv, k3, st3, out3, Nat.add_zero, Int.natCast_zero, AW, reduceAdd, reduceCtorEq, reduceEqDiff, ↓reduceIte, reduceLT, reduceLeDiff, reduceSub, reducePow, reduceMul, reduceToNat, reduceLE, reduceEq, Int.reduceLT, Int.reduceBEq, Int.reduceBNe]) (Or.inl ⟨by decide, Nat.zero_le _⟩) (fun q hq => ?_)
  obtain ⟨j, t⟩ := q
  rcases hq with ⟨hj, ht⟩ | ⟨hj, ht⟩
  · simp only at hj ht
    rcases j with _ | _ | _ | j
    · have hW : (W3 a b c 0).length ≤ 100 := by first | exact ha | exact hb | exact hc
      have hsl := sl3 a b c 0 (by decide)
      have hle := st3_le a b c 0 (by decide)
      have hsu : st3 a b c 1 = st3 a b c 0 + (W3 a b c 0).length + 1 := st3_succ a b c 0 (by decide)
      have hch := ch3 a b c 0 (by decide)
      have hse := sep3 a b c 0 (by decide)
      have hnb : ∀ t (h : t < (W3 a b c 0).length), (W3 a b c 0)[t] ≠ 32 := fun t h e => by
        have hm : (W3 a b c 0)[t] ∈ W3 a b c 0 := List.getElem_mem h
        rw [e] at hm
        first | exact na hm | exact nb hm | exact nc hm
      have hp := rparse_g (W3 a b c 0) 0 (by omega)
      have hpp : parP (W3 a b c 0) 0 = .tup [intP x, intP 0] := by
        unfold parP
        rw [if_pos (by decide)]
        first | (rw [show parN (W3 a b c 0) (0 : Int).toNat = some x from pa]; rfl) | (rw [show parN (W3 a b c 0) (0 : Int).toNat = some x from pb]; rfl) | (rw [show parN (W3 a b c 0) (0 : Int).toNat = some x from pc]; rfl)
      rw [hpp] at hp
      have hl3 := st3_len a b c
      have hmax : (txt3 a b c).length ≤ 400 := hlen
      generalize hwd : W3 a b c 0 = wd at *
      generalize hS : txt3 a b c = S at *
      generalize hs0 : st3 a b c 0 = s at *
      generalize hs1 : st3 a b c 1 = s1 at *
      have d1 : decide (((s + t : Nat) : Int) ≤ (S.length : Int)) = true := by rw [decide_eq_true_eq]; omega
      have wi : IntKind.i64.wrap (((s + t : Nat) : Int) + 1) = ((s + (t + 1) : Nat) : Int) := by rw [wrap_id ⟨by omega, by omega⟩]; omega
      by_cases ht2 : t < wd.length
      · have g := hch t ht2
        have gk : (bA S)[s + t]? = some wd[t] := by rw [bA_get]; exact g
        have e1 : (((wd[t]).toNat : Int) != 32) = true := by
          rw [bne_iff_ne]; intro e
          exact hnb t ht2 (UInt8.toNat_inj.1 (by show _ = 32; omega))
        have d2 : decide (((s + t : Nat) : Int) < (S.length : Int)) = true := by rw [decide_eq_true_eq]; omega
        simp only [txP, k3, out3, d1, d2, bA_size, gk, e1, wi, AW, reduceAdd, reduceCtorEq, reduceEqDiff, ↓reduceIte, reduceLT, reduceLeDiff, reduceSub, reducePow, reduceMul, reduceToNat, reduceLE, reduceEq, Int.reduceLT, Int.reduceBEq, Int.reduceBNe]
        refine ⟨(0, t + 1), Or.inl ⟨by show 0 < 3; decide, by rw [hwd]; exact ht2⟩, ?_, ?_⟩
        · simp only [LW, Nat.reduceMod, Nat.reduceDiv, txP, k3, out3, hs0, hS, AW, reduceAdd, reduceCtorEq, reduceEqDiff, ↓reduceIte, reduceLT, reduceLeDiff, reduceSub, reducePow, reduceMul, reduceToNat, reduceLE, reduceEq, Int.reduceLT, Int.reduceBEq, Int.reduceBNe]
        · simp only [hs0]; omega
      · have ht3 : t = wd.length := by omega
        subst ht3
        have hle2 : s ≤ s + wd.length := by omega
        have gk : (bA S)[s + wd.length]? = some 32 := by rw [bA_get]; exact hse
        have e1 : ((((32 : UInt8)).toNat : Int) != 32) = false := by decide
        have d2 : decide (((s + wd.length : Nat) : Int) < (S.length : Int)) = true := by
          rw [decide_eq_true_eq]
          have := (List.getElem?_eq_some_iff.1 hse).1
          omega
        simp only [txP, k3, out3, d1, d2, bA_size, gk, e1, hle, hle2, bA_extract, hsl, AW, reduceAdd, reduceCtorEq, reduceEqDiff, ↓reduceIte, reduceLT, reduceLeDiff, reduceSub, reducePow, reduceMul, reduceToNat, reduceLE, reduceEq, Int.reduceLT, Int.reduceBEq, Int.reduceBNe]
        refine ops_call (hp) (by simp only [txP, intP, AW, reduceAdd, reduceCtorEq, reduceEqDiff, ↓reduceIte, reduceLT, reduceLeDiff, reduceSub, reducePow, reduceMul, reduceToNat, reduceLE, reduceEq, Int.reduceLT, Int.reduceBEq, Int.reduceBNe]) ?_; simp only [txP, intP, AW, reduceAdd, reduceCtorEq, reduceEqDiff, ↓reduceIte, reduceLT, reduceLeDiff, reduceSub, reducePow, reduceMul, reduceToNat, reduceLE, reduceEq, Int.reduceLT, Int.reduceBEq, Int.reduceBNe]
        have wk : IntKind.i64.wrap (0 + 1) = 1 := by decide
        simp only [wi, wk, AW, reduceAdd, reduceCtorEq, reduceEqDiff, ↓reduceIte, reduceLT, reduceLeDiff, reduceSub, reducePow, reduceMul, reduceToNat, reduceLE, reduceEq, Int.reduceLT, Int.reduceBEq, Int.reduceBNe]
        refine ⟨(1, 0), Or.inl ⟨by decide, Nat.zero_le _⟩, ?_, ?_⟩
        · simp only [LW, Nat.reduceMod, Nat.reduceDiv, txP, k3, out3, hs1, hS, hsu, Nat.add_zero, Nat.add_assoc, AW, reduceAdd, reduceCtorEq, reduceEqDiff, ↓reduceIte, reduceLT, reduceLeDiff, reduceSub, reducePow, reduceMul, reduceToNat, reduceLE, reduceEq, Int.reduceLT, Int.reduceBEq, Int.reduceBNe]
        · simp only [hs1]; omega
    · have hW : (W3 a b c 1).length ≤ 100 := by first | exact ha | exact hb | exact hc
      have hsl := sl3 a b c 1 (by decide)
      have hle := st3_le a b c 1 (by decide)
      have hsu : st3 a b c 2 = st3 a b c 1 + (W3 a b c 1).length + 1 := st3_succ a b c 1 (by decide)
      have hch := ch3 a b c 1 (by decide)
      have hse := sep3 a b c 1 (by decide)
      have hnb : ∀ t (h : t < (W3 a b c 1).length), (W3 a b c 1)[t] ≠ 32 := fun t h e => by
        have hm : (W3 a b c 1)[t] ∈ W3 a b c 1 := List.getElem_mem h
        rw [e] at hm
        first | exact na hm | exact nb hm | exact nc hm
      have hp := rparse_g (W3 a b c 1) 0 (by omega)
      have hpp : parP (W3 a b c 1) 0 = .tup [intP y, intP 0] := by
        unfold parP
        rw [if_pos (by decide)]
        first | (rw [show parN (W3 a b c 1) (0 : Int).toNat = some y from pa]; rfl) | (rw [show parN (W3 a b c 1) (0 : Int).toNat = some y from pb]; rfl) | (rw [show parN (W3 a b c 1) (0 : Int).toNat = some y from pc]; rfl)
      rw [hpp] at hp
      have hl3 := st3_len a b c
      have hmax : (txt3 a b c).length ≤ 400 := hlen
      generalize hwd : W3 a b c 1 = wd at *
      generalize hS : txt3 a b c = S at *
      generalize hs0 : st3 a b c 1 = s at *
      generalize hs1 : st3 a b c 2 = s1 at *
      have d1 : decide (((s + t : Nat) : Int) ≤ (S.length : Int)) = true := by rw [decide_eq_true_eq]; omega
      have wi : IntKind.i64.wrap (((s + t : Nat) : Int) + 1) = ((s + (t + 1) : Nat) : Int) := by rw [wrap_id ⟨by omega, by omega⟩]; omega
      by_cases ht2 : t < wd.length
      · have g := hch t ht2
        have gk : (bA S)[s + t]? = some wd[t] := by rw [bA_get]; exact g
        have e1 : (((wd[t]).toNat : Int) != 32) = true := by
          rw [bne_iff_ne]; intro e
          exact hnb t ht2 (UInt8.toNat_inj.1 (by show _ = 32; omega))
        have d2 : decide (((s + t : Nat) : Int) < (S.length : Int)) = true := by rw [decide_eq_true_eq]; omega
        simp only [txP, k3, out3, d1, d2, bA_size, gk, e1, wi, AW, reduceAdd, reduceCtorEq, reduceEqDiff, ↓reduceIte, reduceLT, reduceLeDiff, reduceSub, reducePow, reduceMul, reduceToNat, reduceLE, reduceEq, Int.reduceLT, Int.reduceBEq, Int.reduceBNe]
        refine ⟨(1, t + 1), Or.inl ⟨by show 1 < 3; decide, by rw [hwd]; exact ht2⟩, ?_, ?_⟩
        · simp only [LW, Nat.reduceMod, Nat.reduceDiv, txP, k3, out3, hs0, hS, AW, reduceAdd, reduceCtorEq, reduceEqDiff, ↓reduceIte, reduceLT, reduceLeDiff, reduceSub, reducePow, reduceMul, reduceToNat, reduceLE, reduceEq, Int.reduceLT, Int.reduceBEq, Int.reduceBNe]
        · simp only [hs0]; omega
      · have ht3 : t = wd.length := by omega
        subst ht3
        have hle2 : s ≤ s + wd.length := by omega
        have gk : (bA S)[s + wd.length]? = some 32 := by rw [bA_get]; exact hse
        have e1 : ((((32 : UInt8)).toNat : Int) != 32) = false := by decide
        have d2 : decide (((s + wd.length : Nat) : Int) < (S.length : Int)) = true := by
          rw [decide_eq_true_eq]
          have := (List.getElem?_eq_some_iff.1 hse).1
          omega
        simp only [txP, k3, out3, d1, d2, bA_size, gk, e1, hle, hle2, bA_extract, hsl, AW, reduceAdd, reduceCtorEq, reduceEqDiff, ↓reduceIte, reduceLT, reduceLeDiff, reduceSub, reducePow, reduceMul, reduceToNat, reduceLE, reduceEq, Int.reduceLT, Int.reduceBEq, Int.reduceBNe]
        refine ops_call (hp) (by simp only [txP, intP, AW, reduceAdd, reduceCtorEq, reduceEqDiff, ↓reduceIte, reduceLT, reduceLeDiff, reduceSub, reducePow, reduceMul, reduceToNat, reduceLE, reduceEq, Int.reduceLT, Int.reduceBEq, Int.reduceBNe]) ?_; simp only [txP, intP, AW, reduceAdd, reduceCtorEq, reduceEqDiff, ↓reduceIte, reduceLT, reduceLeDiff, reduceSub, reducePow, reduceMul, reduceToNat, reduceLE, reduceEq, Int.reduceLT, Int.reduceBEq, Int.reduceBNe]
        have wk : IntKind.i64.wrap (1 + 1) = 2 := by decide
        simp only [wi, wk, AW, reduceAdd, reduceCtorEq, reduceEqDiff, ↓reduceIte, reduceLT, reduceLeDiff, reduceSub, reducePow, reduceMul, reduceToNat, reduceLE, reduceEq, Int.reduceLT, Int.reduceBEq, Int.reduceBNe]
        refine ⟨(2, 0), Or.inl ⟨by decide, Nat.zero_le _⟩, ?_, ?_⟩
        · simp only [LW, Nat.reduceMod, Nat.reduceDiv, txP, k3, out3, hs1, hS, hsu, Nat.add_zero, Nat.add_assoc, AW, reduceAdd, reduceCtorEq, reduceEqDiff, ↓reduceIte, reduceLT, reduceLeDiff, reduceSub, reducePow, reduceMul, reduceToNat, reduceLE, reduceEq, Int.reduceLT, Int.reduceBEq, Int.reduceBNe]
        · simp only [hs1]; omega
    · have hW : (W3 a b c 2).length ≤ 100 := by first | exact ha | exact hb | exact hc
      have hsl := sl3 a b c 2 (by decide)
      have hle := st3_le a b c 2 (by decide)
      have hsu : st3 a b c 3 = st3 a b c 2 + (W3 a b c 2).length + 1 := st3_succ a b c 2 (by decide)
      have hch := ch3 a b c 2 (by decide)
      have hen : (txt3 a b c).length = st3 a b c 2 + (W3 a b c 2).length := by have := st3_len a b c; have h2 : st3 a b c 3 = st3 a b c 2 + (W3 a b c 2).length + 1 := st3_succ a b c 2 (by decide); omega
      have hnb : ∀ t (h : t < (W3 a b c 2).length), (W3 a b c 2)[t] ≠ 32 := fun t h e => by
        have hm : (W3 a b c 2)[t] ∈ W3 a b c 2 := List.getElem_mem h
        rw [e] at hm
        first | exact na hm | exact nb hm | exact nc hm
      have hp := rparse_g (W3 a b c 2) 0 (by omega)
      have hpp : parP (W3 a b c 2) 0 = .tup [intP z, intP 0] := by
        unfold parP
        rw [if_pos (by decide)]
        first | (rw [show parN (W3 a b c 2) (0 : Int).toNat = some z from pa]; rfl) | (rw [show parN (W3 a b c 2) (0 : Int).toNat = some z from pb]; rfl) | (rw [show parN (W3 a b c 2) (0 : Int).toNat = some z from pc]; rfl)
      rw [hpp] at hp
      have hl3 := st3_len a b c
      have hmax : (txt3 a b c).length ≤ 400 := hlen
      generalize hwd : W3 a b c 2 = wd at *
      generalize hS : txt3 a b c = S at *
      generalize hs0 : st3 a b c 2 = s at *
      generalize hs1 : st3 a b c 3 = s1 at *
      have d1 : decide (((s + t : Nat) : Int) ≤ (S.length : Int)) = true := by rw [decide_eq_true_eq]; omega
      have wi : IntKind.i64.wrap (((s + t : Nat) : Int) + 1) = ((s + (t + 1) : Nat) : Int) := by rw [wrap_id ⟨by omega, by omega⟩]; omega
      by_cases ht2 : t < wd.length
      · have g := hch t ht2
        have gk : (bA S)[s + t]? = some wd[t] := by rw [bA_get]; exact g
        have e1 : (((wd[t]).toNat : Int) != 32) = true := by
          rw [bne_iff_ne]; intro e
          exact hnb t ht2 (UInt8.toNat_inj.1 (by show _ = 32; omega))
        have d2 : decide (((s + t : Nat) : Int) < (S.length : Int)) = true := by rw [decide_eq_true_eq]; omega
        simp only [txP, k3, out3, d1, d2, bA_size, gk, e1, wi, AW, reduceAdd, reduceCtorEq, reduceEqDiff, ↓reduceIte, reduceLT, reduceLeDiff, reduceSub, reducePow, reduceMul, reduceToNat, reduceLE, reduceEq, Int.reduceLT, Int.reduceBEq, Int.reduceBNe]
        refine ⟨(2, t + 1), Or.inl ⟨by show 2 < 3; decide, by rw [hwd]; exact ht2⟩, ?_, ?_⟩
        · simp only [LW, Nat.reduceMod, Nat.reduceDiv, txP, k3, out3, hs0, hS, AW, reduceAdd, reduceCtorEq, reduceEqDiff, ↓reduceIte, reduceLT, reduceLeDiff, reduceSub, reducePow, reduceMul, reduceToNat, reduceLE, reduceEq, Int.reduceLT, Int.reduceBEq, Int.reduceBNe]
        · simp only [hs0]; omega
      · have ht3 : t = wd.length := by omega
        subst ht3
        have hle2 : s ≤ s + wd.length := by omega
        have d2 : decide (((s + wd.length : Nat) : Int) < (S.length : Int)) = false := by rw [decide_eq_false_iff_not]; omega
        simp only [txP, k3, out3, d1, d2, bA_size, hle, hle2, bA_extract, hsl, AW, reduceAdd, reduceCtorEq, reduceEqDiff, ↓reduceIte, reduceLT, reduceLeDiff, reduceSub, reducePow, reduceMul, reduceToNat, reduceLE, reduceEq, Int.reduceLT, Int.reduceBEq, Int.reduceBNe]
        refine ops_call (hp) (by simp only [txP, intP, AW, reduceAdd, reduceCtorEq, reduceEqDiff, ↓reduceIte, reduceLT, reduceLeDiff, reduceSub, reducePow, reduceMul, reduceToNat, reduceLE, reduceEq, Int.reduceLT, Int.reduceBEq, Int.reduceBNe]) ?_; simp only [txP, intP, AW, reduceAdd, reduceCtorEq, reduceEqDiff, ↓reduceIte, reduceLT, reduceLeDiff, reduceSub, reducePow, reduceMul, reduceToNat, reduceLE, reduceEq, Int.reduceLT, Int.reduceBEq, Int.reduceBNe]
        have wk : IntKind.i64.wrap (2 + 1) = 3 := by decide
        simp only [wi, wk, AW, reduceAdd, reduceCtorEq, reduceEqDiff, ↓reduceIte, reduceLT, reduceLeDiff, reduceSub, reducePow, reduceMul, reduceToNat, reduceLE, reduceEq, Int.reduceLT, Int.reduceBEq, Int.reduceBNe]
        refine ⟨(3, 0), Or.inr ⟨rfl, rfl⟩, ?_, ?_⟩
        · simp only [LW, Nat.reduceMod, Nat.reduceDiv, txP, k3, out3, hs1, hS, hsu, Nat.add_zero, Nat.add_assoc, AW, reduceAdd, reduceCtorEq, reduceEqDiff, ↓reduceIte, reduceLT, reduceLeDiff, reduceSub, reducePow, reduceMul, reduceToNat, reduceLE, reduceEq, Int.reduceLT, Int.reduceBEq, Int.reduceBNe]
        · simp only [hs1]; omega
    · omega
  · simp only at hj ht
    subst hj ht
    have hl3 := st3_len a b c
    have d1 : decide ((st3 a b c 3 : Int) ≤ ((txt3 a b c).length : Int)) = false := by rw [decide_eq_false_iff_not]; omega
    simp only [k3, out3, txP, bA_size, d1, AW, reduceAdd, reduceCtorEq, reduceEqDiff, ↓reduceIte, reduceLT, reduceLeDiff, reduceSub, reducePow, reduceMul, reduceToNat, reduceLE, reduceEq, Int.reduceLT, Int.reduceBEq, Int.reduceBNe]


end Go.Proofs.YtjnfldkcbcfboaaDoor
