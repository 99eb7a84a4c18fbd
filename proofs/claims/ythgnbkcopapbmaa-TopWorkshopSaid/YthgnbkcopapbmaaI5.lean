/-
  Wear: what is used, as plain sums.
-/
import Derived.Test.YthgnbkcopapbmaaI4
namespace Go.Proofs.Ythgnbkcopapbmaa
open Go.RowKit
open Nat (reduceAdd reduceEqDiff reduceLT reduceLeDiff reduceSub reducePow reduceMul)
open Int (reduceToNat reduceLE reduceEq)
set_option linter.unusedVariables false
set_option linter.unusedSimpArgs false
set_option linter.unnecessarySimpa false


def legM (b f t : Int) (x : LegS) : Bool := x.bike == b && (decide (f ≤ x.from_.lo) && decide (x.from_.lo < t))
def addN (b f t : Int) (x : LegS) : Int := if legM b f t x = true then 1 else 0
def addS (b f t : Int) (r : RideS) (k : Nat) (x : LegS) : Int := if legM b f t x = true ∧ (r.open_ = false ∨ k + 1 < r.legs.length) then x.to_.lo - x.from_.lo else 0
def legN (b f t : Int) (r : RideS) : Nat → Int
  | 0 => 0
  | k + 1 => legN b f t r k + (match r.legs[k]? with
    | some x => addN b f t x
    | none => 0)
def legS (b f t : Int) (r : RideS) : Nat → Int
  | 0 => 0
  | k + 1 => legS b f t r k + (match r.legs[k]? with
    | some x => addS b f t r k x
    | none => 0)
def useN (b f t : Int) (rs : List RideS) : Nat → Int
  | 0 => 0
  | i + 1 => useN b f t rs i + (match rs[i]? with
    | some r => legN b f t r r.legs.length
    | none => 0)
def useS (b f t : Int) (rs : List RideS) : Nat → Int
  | 0 => 0
  | i + 1 => useS b f t rs i + (match rs[i]? with
    | some r => legS b f t r r.legs.length
    | none => 0)
theorem legN_succ {b f t : Int} {r : RideS} {k : Nat} (h : k < r.legs.length) : legN b f t r (k + 1) = legN b f t r k + addN b f t r.legs[k] := by
  simp only [legN, List.getElem?_eq_getElem h]
theorem legS_succ {b f t : Int} {r : RideS} {k : Nat} (h : k < r.legs.length) : legS b f t r (k + 1) = legS b f t r k + addS b f t r k r.legs[k] := by
  simp only [legS, List.getElem?_eq_getElem h]
theorem useN_succ {b f t : Int} {rs : List RideS} {i : Nat} (h : i < rs.length) : useN b f t rs (i + 1) = useN b f t rs i + legN b f t rs[i] rs[i].legs.length := by
  simp only [useN, List.getElem?_eq_getElem h]
theorem useS_succ {b f t : Int} {rs : List RideS} {i : Nat} (h : i < rs.length) : useS b f t rs (i + 1) = useS b f t rs i + legS b f t rs[i] rs[i].legs.length := by
  simp only [useS, List.getElem?_eq_getElem h]
/-- What is known of the legs of a ride that is in order. -/
structure LegsOk (r : RideS) : Prop where
  len : r.legs.length ≤ 512
  rng : ∀ k (h : k < r.legs.length), 0 ≤ r.legs[k].from_.lo ∧ r.legs[k].from_.lo ≤ 4294943999 ∧ 0 ≤ r.legs[k].to_.lo ∧ r.legs[k].to_.lo ≤ 4294943999
theorem check_parts {r : RideS} (h : checkL r = 0) : rangedL r = true ∧ joinedL r = true ∧ orderedL r = true ∧ badL r = false := by
  unfold checkL at h
  split at h
  · simp at h
  · split at h
    · simp at h
    · split at h
      · simp at h
      · split at h
        · simp at h
        · simp_all
theorem legs_ok {r : RideS} (h : checkL r = 0) : LegsOk r := by
  obtain ⟨h1, h2, _, _⟩ := check_parts h
  refine ⟨?_, fun k hk => ?_⟩
  · simp only [joinedL, lensL, Bool.and_eq_true, decide_eq_true_eq] at h2; exact h2.1.1.1.2
  · simp only [rangedL, Bool.and_eq_true, List.all_eq_true] at h1
    have := h1.1.2 _ (List.getElem_mem hk)
    simp only [legV, validL, Bool.and_eq_true, decide_eq_true_eq] at this
    omega
theorem addN_b (b f t : Int) (x : LegS) : 0 ≤ addN b f t x ∧ addN b f t x ≤ 1 := by unfold addN; split <;> omega
theorem addS_b {b f t : Int} {r : RideS} {k : Nat} (ho : LegsOk r) (h : k < r.legs.length) : -4294943999 ≤ addS b f t r k r.legs[k] ∧ addS b f t r k r.legs[k] ≤ 4294943999 := by
  have := ho.rng k h
  unfold addS; split <;> omega
theorem legN_b (b f t : Int) (r : RideS) : ∀ k, k ≤ r.legs.length → 0 ≤ legN b f t r k ∧ legN b f t r k ≤ k
  | 0, _ => by simp [legN]
  | k + 1, h => by
    have := legN_b b f t r k (by omega)
    have := addN_b b f t r.legs[k]
    rw [legN_succ (by omega)]; omega
theorem legS_b {b f t : Int} {r : RideS} (ho : LegsOk r) : ∀ k, k ≤ r.legs.length → -(k * 4294943999) ≤ legS b f t r k ∧ legS b f t r k ≤ k * 4294943999
  | 0, _ => by simp [legS]
  | k + 1, h => by
    have := legS_b (b := b) (f := f) (t := t) ho k (by omega)
    have := addS_b (b := b) (f := f) (t := t) ho (show k < r.legs.length by omega)
    rw [legS_succ (by omega)]; omega
theorem useN_b {b f t : Int} {rs : List RideS} (ho : ∀ r ∈ rs, LegsOk r) : ∀ i, i ≤ rs.length → 0 ≤ useN b f t rs i ∧ useN b f t rs i ≤ i * 512
  | 0, _ => by simp [useN]
  | i + 1, h => by
    have := useN_b (b := b) (f := f) (t := t) ho i (by omega)
    have hl := (ho _ (List.getElem_mem (show i < rs.length by omega))).len
    have := legN_b b f t rs[i] rs[i].legs.length (Nat.le_refl _)
    rw [useN_succ (by omega)]; omega
theorem useS_b {b f t : Int} {rs : List RideS} (ho : ∀ r ∈ rs, LegsOk r) : ∀ i, i ≤ rs.length → -(i * 2199011327488) ≤ useS b f t rs i ∧ useS b f t rs i ≤ i * 2199011327488
  | 0, _ => by simp [useS]
  | i + 1, h => by
    have := useS_b (b := b) (f := f) (t := t) ho i (by omega)
    have hr := ho _ (List.getElem_mem (show i < rs.length by omega))
    have hl := hr.len
    have := legS_b (b := b) (f := f) (t := t) hr rs[i].legs.length (Nat.le_refl _)
    rw [useS_succ (by omega)]; omega
noncomputable def winE (b f t : Int) (rs : List RideS) : Int := if b < 0 ∨ 128 ≤ b ∨ f < 0 ∨ t < f ∨ 4294944000 < t then 1 else if 256 < rs.length then 8 else firstE checkL rs
theorem wr1 {a b : Int} {i n k m : Nat} (ha : 0 ≤ a ∧ a ≤ i * 512) (gi : i ≤ n) (hn : n ≤ 256) (hb : 0 ≤ b ∧ b ≤ k) (gk : k ≤ m) (hm : m ≤ 512) : IntKind.wrap .i64 (a + b + 1) = a + (b + 1) := by
  rw [wrap_id ⟨by omega, by omega⟩]; omega
theorem wr2 {a b x y : Int} {i n k m : Nat} (ha : -(i * 2199011327488) ≤ a ∧ a ≤ i * 2199011327488) (gi : i ≤ n) (hn : n ≤ 256) (hb : -(k * 4294943999) ≤ b ∧ b ≤ k * 4294943999) (gk : k ≤ m) (hm : m ≤ 512) (h : 0 ≤ y ∧ y ≤ 4294943999 ∧ 0 ≤ x ∧ x ≤ 4294943999) :
    IntKind.wrap .i64 (a + b + x) = a + b + x ∧ IntKind.wrap .i64 (a + b + x - y) = a + (b + (x - y)) := by
  rw [wrap_id ⟨by omega, by omega⟩, wrap_id ⟨by omega, by omega⟩]; constructor <;> omega
theorem wr3 {a b x y : Int} {i n k m : Nat} (ha : -(i * 2199011327488) ≤ a ∧ a ≤ i * 2199011327488) (gi : i ≤ n) (hn : n ≤ 256) (hb : -(k * 4294943999) ≤ b ∧ b ≤ k * 4294943999) (gk : k ≤ m) (hm : m ≤ 512) (h : 0 ≤ y ∧ y ≤ 4294943999 ∧ 0 ≤ x ∧ x ≤ 4294943999) :
    IntKind.wrap .i64 (x - y) = x - y ∧ IntKind.wrap .i64 (a + b + (x - y)) = a + (b + (x - y)) := by
  rw [wrap_id ⟨by omega, by omega⟩, wrap_id ⟨by omega, by omega⟩]; constructor <;> omega
set_option maxHeartbeats 4000000 in
theorem use_g (rs : List RideS) (b f t : Int) (ho : ∀ r ∈ rs, LegsOk r) (hl : rs.length ≤ 256) : Good Try.prog 21 [.sl (rs.map RideS.pv), intP b, .agg [intP f, intP t]] (.agg [intP (useN b f t rs rs.length), intP (useS b f t rs rs.length)]) := by
  have hlen : rs.length ≤ maxLen := by unfold maxLen; omega
  refine good21 (by simp) ?_
  simp only [ac21, intP, AW, reduceAdd, reduceCtorEq, reduceEqDiff, ↓reduceIte, reduceLT, reduceLeDiff, reduceSub, reducePow, reduceMul, reduceToNat, reduceLE, reduceEq, Int.reduceLT, Int.reduceBEq, Int.reduceBNe]
  refine run_loop (ι := Nat) (fun i => ⟨[(1, .sc (.int .i64 b)), (5, .ptr 0 0), (6, .ptr 1 0), (11, .sl (rs.map RideS.pv)), (12, .sc (.int .i64 (rs.length : Int))), (13, .sc (.int .i64 (i : Int)))], [(0, .var [.sc (.int .i64 f), .sc (.int .i64 t)]), (1, .var [.sc (.int .i64 (useN b f t rs i)), .sc (.int .i64 (useS b f t rs i))])], 5, 74⟩) (fun i => i ≤ rs.length) (fun i => rs.length - i) 5 (fun _ => rfl) 0 (by simp only [LW, Nat.reduceMod, Nat.reduceDiv, Int.natCast_zero, useN, useS, AW, reduceAdd, reduceCtorEq, reduceEqDiff, ↓reduceIte, reduceLT, reduceLeDiff, reduceSub, reducePow, reduceMul, reduceToNat, reduceLE, reduceEq, Int.reduceLT, Int.reduceBEq, Int.reduceBNe]) (Nat.zero_le _) (fun i hi => ?_)
  have gi := hi
  by_cases hlti : i < rs.length
  rotate_left
  · have di : decide ((i : Int) < ((rs.length : Nat) : Int)) = false := by rw [decide_eq_false_iff_not]; exact fun h => hlti (Int.ofNat_lt.1 h)
    have ei : i = rs.length := Nat.le_antisymm gi (Nat.le_of_not_lt hlti)
    subst ei
    simp only [di, intP, AW, reduceAdd, reduceCtorEq, reduceEqDiff, ↓reduceIte, reduceLT, reduceLeDiff, reduceSub, reducePow, reduceMul, reduceToNat, reduceLE, reduceEq, Int.reduceLT, Int.reduceBEq, Int.reduceBNe]
  have di : decide ((i : Int) < ((rs.length : Nat) : Int)) = true := by rw [decide_eq_true_eq]; exact Int.ofNat_lt.2 hlti
  have hr := ho _ (List.getElem_mem hlti)
  have hk512 : rs[i].legs.length ≤ maxLen := by have := hr.len; unfold maxLen; omega
  simp only [di, map_getD hlti, hlti, RideS.pv, AW, reduceAdd, reduceCtorEq, reduceEqDiff, ↓reduceIte, reduceLT, reduceLeDiff, reduceSub, reducePow, reduceMul, reduceToNat, reduceLE, reduceEq, Int.reduceLT, Int.reduceBEq, Int.reduceBNe]
  refine run_loop (ι := Nat) (fun k => ⟨[(1, .sc (.int .i64 b)), (5, .ptr 0 0), (6, .ptr 1 0), (8, .ptr 8 0), (11, .sl (rs.map RideS.pv)), (12, .sc (.int .i64 (rs.length : Int))), (13, .sc (.int .i64 (i : Int))), (18, .sl (rs[i].legs.map LegS.pv)), (19, .sc (.int .i64 (rs[i].legs.length : Int))), (20, .sc (.int .i64 (k : Int)))], [(0, .var [.sc (.int .i64 f), .sc (.int .i64 t)]), (1, .var [.sc (.int .i64 (useN b f t rs i + legN b f t rs[i] k)), .sc (.int .i64 (useS b f t rs i + legS b f t rs[i] k))]), (8, .var [.sc (.int .i64 rs[i].id), .sc (.int .i64 rs[i].rider), .sc (.int .i64 rs[i].start.lo), .sc (.int .i64 rs[i].start.hi), .sc (.int .i64 rs[i].end_.lo), .sc (.int .i64 rs[i].end_.hi), .sc (.bool rs[i].open_), .sl (rs[i].legs.map LegS.pv), .sl (rs[i].pauses.map PauseS.pv), .sc (.int .i64 rs[i].fromWhere), .sc (.int .i64 rs[i].fromPlace), .sc (.int .i64 rs[i].where_), .sc (.int .i64 rs[i].place)])], 14, 74⟩) (fun k => k ≤ rs[i].legs.length) (fun k => rs[i].legs.length - k) 14 (fun _ => rfl) 0 (by simp only [LW, Nat.reduceMod, Nat.reduceDiv, Int.natCast_zero, legN, legS, Int.add_zero, AW, reduceAdd, reduceCtorEq, reduceEqDiff, ↓reduceIte, reduceLT, reduceLeDiff, reduceSub, reducePow, reduceMul, reduceToNat, reduceLE, reduceEq, Int.reduceLT, Int.reduceBEq, Int.reduceBNe]) (Nat.zero_le _) (fun k hk => ?_)
  have gk := hk
  by_cases hltk : k < rs[i].legs.length
  rotate_left
  · have dk : decide ((k : Int) < ((rs[i].legs.length : Nat) : Int)) = false := by rw [decide_eq_false_iff_not]; exact fun h => hltk (Int.ofNat_lt.1 h)
    have ek : k = rs[i].legs.length := Nat.le_antisymm gk (Nat.le_of_not_lt hltk)
    subst ek
    simp only [dk, wrap_succ hlti hlen, AW, reduceAdd, reduceCtorEq, reduceEqDiff, ↓reduceIte, reduceLT, reduceLeDiff, reduceSub, reducePow, reduceMul, reduceToNat, reduceLE, reduceEq, Int.reduceLT, Int.reduceBEq, Int.reduceBNe]
    refine ⟨i + 1, hlti, ?_, meas_lt hlti⟩
    simp only [LW, Nat.reduceMod, Nat.reduceDiv, useN_succ hlti, useS_succ hlti, AW, reduceAdd, reduceCtorEq, reduceEqDiff, ↓reduceIte, reduceLT, reduceLeDiff, reduceSub, reducePow, reduceMul, reduceToNat, reduceLE, reduceEq, Int.reduceLT, Int.reduceBEq, Int.reduceBNe]
  have dk : decide ((k : Int) < ((rs[i].legs.length : Nat) : Int)) = true := by rw [decide_eq_true_eq]; exact Int.ofNat_lt.2 hltk
  have no : legM b f t rs[i].legs[k] = false → addN b f t rs[i].legs[k] = 0 ∧ addS b f t rs[i] k rs[i].legs[k] = 0 := fun h => by
    unfold addN addS; rw [if_neg (by simp [h]), if_neg (by simp [h])]; exact ⟨rfl, rfl⟩
  have bn := legN_b b f t rs[i] k gk
  have bs := legS_b (b := b) (f := f) (t := t) hr k gk
  have bN := useN_b (b := b) (f := f) (t := t) ho i gi
  have bS := useS_b (b := b) (f := f) (t := t) ho i gi
  have hrng := hr.rng k hltk
  simp only [dk, map_getD hltk, hltk, LegS.pv, LegS.vals, AW, reduceAdd, reduceCtorEq, reduceEqDiff, ↓reduceIte, reduceLT, reduceLeDiff, reduceSub, reducePow, reduceMul, reduceToNat, reduceLE, reduceEq, Int.reduceLT, Int.reduceBEq, Int.reduceBNe]
  cases c1 : (rs[i].legs[k].bike != b)
  rotate_left
  · obtain ⟨aN, aS⟩ := no (by simp [legM]; intro h; simp [h] at c1)
    (try simp only [AW, reduceAdd, reduceCtorEq, reduceEqDiff, ↓reduceIte, reduceLT, reduceLeDiff, reduceSub, reducePow, reduceMul, reduceToNat, reduceLE, reduceEq, Int.reduceLT, Int.reduceBEq, Int.reduceBNe])
    (try refine drawnK rfl ?_); (try simp only [AW, reduceAdd, reduceCtorEq, reduceEqDiff, ↓reduceIte, reduceLT, reduceLeDiff, reduceSub, reducePow, reduceMul, reduceToNat, reduceLE, reduceEq, Int.reduceLT, Int.reduceBEq, Int.reduceBNe])
    (try simp only [wrap_succ hltk hk512, AW, reduceAdd, reduceCtorEq, reduceEqDiff, ↓reduceIte, reduceLT, reduceLeDiff, reduceSub, reducePow, reduceMul, reduceToNat, reduceLE, reduceEq, Int.reduceLT, Int.reduceBEq, Int.reduceBNe])
    refine ⟨k + 1, hltk, ?_, meas_lt hltk⟩
    simp only [LW, Nat.reduceMod, Nat.reduceDiv, legN_succ hltk, legS_succ hltk, aN, aS, Int.add_zero, AW, reduceAdd, reduceCtorEq, reduceEqDiff, ↓reduceIte, reduceLT, reduceLeDiff, reduceSub, reducePow, reduceMul, reduceToNat, reduceLE, reduceEq, Int.reduceLT, Int.reduceBEq, Int.reduceBNe]
  (try simp only [map_getD hltk, hltk, map_getD hlti, hlti, LegS.pv, LegS.vals, RideS.pv, AW, reduceAdd, reduceCtorEq, reduceEqDiff, ↓reduceIte, reduceLT, reduceLeDiff, reduceSub, reducePow, reduceMul, reduceToNat, reduceLE, reduceEq, Int.reduceLT, Int.reduceBEq, Int.reduceBNe])
  cases c2 : decide (rs[i].legs[k].from_.lo < f)
  rotate_left
  · obtain ⟨aN, aS⟩ := no (by rw [decide_eq_true_eq] at c2; simp only [legM, Bool.and_eq_false_iff, decide_eq_false_iff_not]; right; left; omega)
    (try simp only [AW, reduceAdd, reduceCtorEq, reduceEqDiff, ↓reduceIte, reduceLT, reduceLeDiff, reduceSub, reducePow, reduceMul, reduceToNat, reduceLE, reduceEq, Int.reduceLT, Int.reduceBEq, Int.reduceBNe])
    (try refine drawnK rfl ?_); (try simp only [AW, reduceAdd, reduceCtorEq, reduceEqDiff, ↓reduceIte, reduceLT, reduceLeDiff, reduceSub, reducePow, reduceMul, reduceToNat, reduceLE, reduceEq, Int.reduceLT, Int.reduceBEq, Int.reduceBNe])
    (try simp only [wrap_succ hltk hk512, AW, reduceAdd, reduceCtorEq, reduceEqDiff, ↓reduceIte, reduceLT, reduceLeDiff, reduceSub, reducePow, reduceMul, reduceToNat, reduceLE, reduceEq, Int.reduceLT, Int.reduceBEq, Int.reduceBNe])
    refine ⟨k + 1, hltk, ?_, meas_lt hltk⟩
    simp only [LW, Nat.reduceMod, Nat.reduceDiv, legN_succ hltk, legS_succ hltk, aN, aS, Int.add_zero, AW, reduceAdd, reduceCtorEq, reduceEqDiff, ↓reduceIte, reduceLT, reduceLeDiff, reduceSub, reducePow, reduceMul, reduceToNat, reduceLE, reduceEq, Int.reduceLT, Int.reduceBEq, Int.reduceBNe]
  (try simp only [map_getD hltk, hltk, map_getD hlti, hlti, LegS.pv, LegS.vals, RideS.pv, AW, reduceAdd, reduceCtorEq, reduceEqDiff, ↓reduceIte, reduceLT, reduceLeDiff, reduceSub, reducePow, reduceMul, reduceToNat, reduceLE, reduceEq, Int.reduceLT, Int.reduceBEq, Int.reduceBNe])
  cases c3 : decide (t ≤ rs[i].legs[k].from_.lo)
  rotate_left
  · obtain ⟨aN, aS⟩ := no (by rw [decide_eq_true_eq] at c3; simp only [legM, Bool.and_eq_false_iff, decide_eq_false_iff_not]; right; right; omega)
    (try simp only [AW, reduceAdd, reduceCtorEq, reduceEqDiff, ↓reduceIte, reduceLT, reduceLeDiff, reduceSub, reducePow, reduceMul, reduceToNat, reduceLE, reduceEq, Int.reduceLT, Int.reduceBEq, Int.reduceBNe])
    (try refine drawnK rfl ?_); (try simp only [AW, reduceAdd, reduceCtorEq, reduceEqDiff, ↓reduceIte, reduceLT, reduceLeDiff, reduceSub, reducePow, reduceMul, reduceToNat, reduceLE, reduceEq, Int.reduceLT, Int.reduceBEq, Int.reduceBNe])
    (try simp only [wrap_succ hltk hk512, AW, reduceAdd, reduceCtorEq, reduceEqDiff, ↓reduceIte, reduceLT, reduceLeDiff, reduceSub, reducePow, reduceMul, reduceToNat, reduceLE, reduceEq, Int.reduceLT, Int.reduceBEq, Int.reduceBNe])
    refine ⟨k + 1, hltk, ?_, meas_lt hltk⟩
    simp only [LW, Nat.reduceMod, Nat.reduceDiv, legN_succ hltk, legS_succ hltk, aN, aS, Int.add_zero, AW, reduceAdd, reduceCtorEq, reduceEqDiff, ↓reduceIte, reduceLT, reduceLeDiff, reduceSub, reducePow, reduceMul, reduceToNat, reduceLE, reduceEq, Int.reduceLT, Int.reduceBEq, Int.reduceBNe]
  rw [decide_eq_false_iff_not] at c2 c3
  have hm : legM b f t rs[i].legs[k] = true := by simp at c1; simp only [legM, c1, BEq.rfl, Bool.true_and, Bool.and_eq_true, decide_eq_true_eq]; omega
  have aN : addN b f t rs[i].legs[k] = 1 := by unfold addN; rw [if_pos hm]
  have hw0 : IntKind.wrap .i64 (useN b f t rs i + legN b f t rs[i] k + 1) = useN b f t rs i + (legN b f t rs[i] k + 1) := wr1 bN gi hl bn gk hr.len
  have hws := wr3 bS gi hl bs gk hr.len hrng
  (try simp only [map_getD hltk, hltk, map_getD hlti, hlti, LegS.pv, LegS.vals, RideS.pv, AW, reduceAdd, reduceCtorEq, reduceEqDiff, ↓reduceIte, reduceLT, reduceLeDiff, reduceSub, reducePow, reduceMul, reduceToNat, reduceLE, reduceEq, Int.reduceLT, Int.reduceBEq, Int.reduceBNe])
  cases c4 : rs[i].open_
  · have aS : addS b f t rs[i] k rs[i].legs[k] = rs[i].legs[k].to_.lo - rs[i].legs[k].from_.lo := by unfold addS; rw [if_pos ⟨hm, Or.inl c4⟩]
    (try refine drawnK rfl ?_); (try simp only [hws.1, hws.2, wrap_succ hltk hk512, AW, reduceAdd, reduceCtorEq, reduceEqDiff, ↓reduceIte, reduceLT, reduceLeDiff, reduceSub, reducePow, reduceMul, reduceToNat, reduceLE, reduceEq, Int.reduceLT, Int.reduceBEq, Int.reduceBNe])
    (try simp only [hws.1, hws.2, wrap_succ hltk hk512, AW, reduceAdd, reduceCtorEq, reduceEqDiff, ↓reduceIte, reduceLT, reduceLeDiff, reduceSub, reducePow, reduceMul, reduceToNat, reduceLE, reduceEq, Int.reduceLT, Int.reduceBEq, Int.reduceBNe])
    refine ⟨k + 1, hltk, ?_, meas_lt hltk⟩
    simp only [LW, Nat.reduceMod, Nat.reduceDiv, legN_succ hltk, legS_succ hltk, aN, aS, hw0, hws.1, hws.2, AW, reduceAdd, reduceCtorEq, reduceEqDiff, ↓reduceIte, reduceLT, reduceLeDiff, reduceSub, reducePow, reduceMul, reduceToNat, reduceLE, reduceEq, Int.reduceLT, Int.reduceBEq, Int.reduceBNe]
  · have hk0 : 0 < rs[i].legs.length := by omega
    (try simp only [c4, wrap_pred hk0 hk512, Bool.not_true, AW, reduceAdd, reduceCtorEq, reduceEqDiff, ↓reduceIte, reduceLT, reduceLeDiff, reduceSub, reducePow, reduceMul, reduceToNat, reduceLE, reduceEq, Int.reduceLT, Int.reduceBEq, Int.reduceBNe]); (try simp only [map_getD hltk, hltk, map_getD hlti, hlti, LegS.pv, LegS.vals, RideS.pv, AW, reduceAdd, reduceCtorEq, reduceEqDiff, ↓reduceIte, reduceLT, reduceLeDiff, reduceSub, reducePow, reduceMul, reduceToNat, reduceLE, reduceEq, Int.reduceLT, Int.reduceBEq, Int.reduceBNe]); (try simp only [c4, wrap_pred hk0 hk512, AW, reduceAdd, reduceCtorEq, reduceEqDiff, ↓reduceIte, reduceLT, reduceLeDiff, reduceSub, reducePow, reduceMul, reduceToNat, reduceLE, reduceEq, Int.reduceLT, Int.reduceBEq, Int.reduceBNe])
    cases c5 : decide ((k : Int) < ((rs[i].legs.length - 1 : Nat) : Int))
    · have aS : addS b f t rs[i] k rs[i].legs[k] = 0 := by rw [decide_eq_false_iff_not] at c5; unfold addS; exact if_neg (fun h => h.2.elim (fun e => by rw [c4] at e; cases e) (fun e => by omega))
      (try simp only [AW, reduceAdd, reduceCtorEq, reduceEqDiff, ↓reduceIte, reduceLT, reduceLeDiff, reduceSub, reducePow, reduceMul, reduceToNat, reduceLE, reduceEq, Int.reduceLT, Int.reduceBEq, Int.reduceBNe])
      (try refine drawnK rfl ?_); (try simp only [wrap_succ hltk hk512, AW, reduceAdd, reduceCtorEq, reduceEqDiff, ↓reduceIte, reduceLT, reduceLeDiff, reduceSub, reducePow, reduceMul, reduceToNat, reduceLE, reduceEq, Int.reduceLT, Int.reduceBEq, Int.reduceBNe])
      (try simp only [wrap_succ hltk hk512, AW, reduceAdd, reduceCtorEq, reduceEqDiff, ↓reduceIte, reduceLT, reduceLeDiff, reduceSub, reducePow, reduceMul, reduceToNat, reduceLE, reduceEq, Int.reduceLT, Int.reduceBEq, Int.reduceBNe])
      refine ⟨k + 1, hltk, ?_, meas_lt hltk⟩
      simp only [LW, Nat.reduceMod, Nat.reduceDiv, legN_succ hltk, legS_succ hltk, aN, aS, hw0, Int.add_zero, AW, reduceAdd, reduceCtorEq, reduceEqDiff, ↓reduceIte, reduceLT, reduceLeDiff, reduceSub, reducePow, reduceMul, reduceToNat, reduceLE, reduceEq, Int.reduceLT, Int.reduceBEq, Int.reduceBNe]
    · have aS : addS b f t rs[i] k rs[i].legs[k] = rs[i].legs[k].to_.lo - rs[i].legs[k].from_.lo := by rw [decide_eq_true_eq] at c5; unfold addS; rw [if_pos ⟨hm, Or.inr (by omega)⟩]
      (try simp only [AW, reduceAdd, reduceCtorEq, reduceEqDiff, ↓reduceIte, reduceLT, reduceLeDiff, reduceSub, reducePow, reduceMul, reduceToNat, reduceLE, reduceEq, Int.reduceLT, Int.reduceBEq, Int.reduceBNe])
      (try refine drawnK rfl ?_); (try simp only [hws.1, hws.2, wrap_succ hltk hk512, AW, reduceAdd, reduceCtorEq, reduceEqDiff, ↓reduceIte, reduceLT, reduceLeDiff, reduceSub, reducePow, reduceMul, reduceToNat, reduceLE, reduceEq, Int.reduceLT, Int.reduceBEq, Int.reduceBNe])
      (try simp only [hws.1, hws.2, wrap_succ hltk hk512, AW, reduceAdd, reduceCtorEq, reduceEqDiff, ↓reduceIte, reduceLT, reduceLeDiff, reduceSub, reducePow, reduceMul, reduceToNat, reduceLE, reduceEq, Int.reduceLT, Int.reduceBEq, Int.reduceBNe])
      refine ⟨k + 1, hltk, ?_, meas_lt hltk⟩
      simp only [LW, Nat.reduceMod, Nat.reduceDiv, legN_succ hltk, legS_succ hltk, aN, aS, hw0, hws.1, hws.2, AW, reduceAdd, reduceCtorEq, reduceEqDiff, ↓reduceIte, reduceLT, reduceLeDiff, reduceSub, reducePow, reduceMul, reduceToNat, reduceLE, reduceEq, Int.reduceLT, Int.reduceBEq, Int.reduceBNe]


end Go.Proofs.Ythgnbkcopapbmaa
