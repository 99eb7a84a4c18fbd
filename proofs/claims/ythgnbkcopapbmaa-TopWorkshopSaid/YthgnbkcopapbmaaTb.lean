/-
  Wear: the first moment at which a limit is reached, walked.
-/
import Derived.Test.YthgnbkcopapbmaaTa
namespace Go.Proofs.Ythgnbkcopapbmaa
open Go.RowKit
open Nat (reduceAdd reduceEqDiff reduceLT reduceLeDiff reduceSub reducePow reduceMul)
open Int (reduceToNat reduceLE reduceEq)
set_option linter.unusedVariables false
set_option linter.unusedSimpArgs false
set_option linter.unnecessarySimpa false


def legAt (b f : Int) (x : LegS) : Bool := x.bike == b && decide (f ≤ x.from_.lo)
def atR (b f : Int) (r : RideS) (k : Nat) : List Int := ((r.legs.take k).filter (legAt b f)).map fun x => x.from_.lo + 1
def atL (b f : Int) (rs : List RideS) (i : Nat) : List Int := (rs.take i).flatMap fun r => atR b f r r.legs.length
theorem atR_yes {b f : Int} {r : RideS} {k : Nat} (h : k < r.legs.length) (hp : legAt b f r.legs[k] = true) : atR b f r (k + 1) = atR b f r k ++ [r.legs[k].from_.lo + 1] := by
  unfold atR; rw [filt_succ _ _ _ h, if_pos hp]
theorem atR_no {b f : Int} {r : RideS} {k : Nat} (h : k < r.legs.length) (hp : legAt b f r.legs[k] = false) : atR b f r (k + 1) = atR b f r k := by
  unfold atR; rw [filt_succ _ _ _ h, if_neg (by simp [hp]), List.append_nil]
theorem atL_succ {b f : Int} {rs : List RideS} {i : Nat} (h : i < rs.length) : atL b f rs (i + 1) = atL b f rs i ++ atR b f rs[i] rs[i].legs.length := by
  unfold atL; rw [List.take_succ_eq_append_getElem h, List.flatMap_append]; simp
theorem atR_len (b f : Int) (r : RideS) (k : Nat) : (atR b f r k).length ≤ k := by
  unfold atR; rw [List.length_map]
  exact Nat.le_trans (List.length_filter_le _ _) (List.length_take_le _ _)
theorem atL_len {b f : Int} {rs : List RideS} (ho : ∀ r ∈ rs, LegsOk r) : ∀ i, i ≤ rs.length → (atL b f rs i).length ≤ 512 * i
  | 0, _ => by simp [atL]
  | i + 1, h => by
    have := atL_len (b := b) (f := f) ho i (by omega)
    have hl := (ho _ (List.getElem_mem (show i < rs.length by omega))).len
    have := atR_len b f rs[i] rs[i].legs.length
    rw [atL_succ (by omega), List.length_append]; omega
def wearAt (w : WearS) (rs : List RideS) (b f : Int) (k : Nat) (t : Int) : Int := wornL w k (useN b f t rs rs.length) (useS b f t rs rs.length)
noncomputable def reachL (w : WearS) (rs : List RideS) (b k f limit : Int) : Int × Int :=
  if (ofW w rs b k f 4294944000).2 ≠ 0 then (0, (ofW w rs b k f 4294944000).2) else if limit < 0 ∨ 1125899906842624 < limit then (0, 1)
  else match (sortL (f :: atL b f rs rs.length)).find? (fun t => decide (limit ≤ wearAt w rs b f k.toNat t)) with
  | some t => (t, 0)
  | none => (0, 10)
section
variable {w : WearS} {rs : List RideS} {b k f limit : Int}
theorem reachL_1 (h : (ofW w rs b k f 4294944000).2 ≠ 0) : reachL w rs b k f limit = (0, (ofW w rs b k f 4294944000).2) := by unfold reachL; rw [if_pos h]
theorem reachL_2 (h : (ofW w rs b k f 4294944000).2 = 0) (h2 : limit < 0 ∨ 1125899906842624 < limit) : reachL w rs b k f limit = (0, 1) := by unfold reachL; rw [if_neg (by omega), if_pos h2]
theorem reachL_3 (h : (ofW w rs b k f 4294944000).2 = 0) (h2 : ¬(limit < 0 ∨ 1125899906842624 < limit)) {t : Int} (h3 : (sortL (f :: atL b f rs rs.length)).find? (fun t => decide (limit ≤ wearAt w rs b f k.toNat t)) = some t) : reachL w rs b k f limit = (t, 0) := by unfold reachL; rw [if_neg (by omega), if_neg h2, h3]
theorem reachL_4 (h : (ofW w rs b k f 4294944000).2 = 0) (h2 : ¬(limit < 0 ∨ 1125899906842624 < limit)) (h3 : (sortL (f :: atL b f rs rs.length)).find? (fun t => decide (limit ≤ wearAt w rs b f k.toNat t)) = none) : reachL w rs b k f limit = (0, 10) := by unfold reachL; rw [if_neg (by omega), if_neg h2, h3]
theorem ofW_ok {t : Int} (h : (ofW w rs b k f t).2 = 0) : wearC w = 0 ∧ 0 ≤ k ∧ k < w.hour.length ∧ winE b f t rs = 0 := by
  unfold ofW at h
  split at h
  · rename_i h1; exact absurd h h1
  split at h
  · cases h
  split at h
  · rename_i h3; exact absurd h h3
  exact ⟨by omega, by omega, by omega, by omega⟩
end
theorem find_at {p : Int → Bool} {l : List Int} {k : Nat} (hk : k < l.length) (h1 : p l[k] = true) (h2 : ∀ j (hj : j < l.length), j < k → p l[j] = false) : l.find? p = some l[k] := by
  rw [List.find?_eq_some_iff_getElem]
  exact ⟨h1, k, hk, rfl, fun j hj => by simp [h2 j (by omega) hj]⟩
theorem find_no {p : Int → Bool} {l : List Int} (h2 : ∀ j (hj : j < l.length), p l[j] = false) : l.find? p = none := by
  rw [List.find?_eq_none]
  intro x hx
  obtain ⟨j, hj, rfl⟩ := List.mem_iff_getElem.1 hx
  simp [h2 j hj]
set_option maxHeartbeats 4000000 in
theorem reaches_g (w : WearS) (rs : List RideS) (b k f limit : Int) : Good Try.prog 7 [w.pv, .sl (rs.map RideS.pv), intP b, intP k, intP f, intP limit] (pairP (reachL w rs b k f limit)) := by
  refine good7 (by simp) ?_
  have g1 := of_g w rs b k f 4294944000
  simp only [ac7, WearS.pv, intP, AW, reduceAdd, reduceCtorEq, reduceEqDiff, ↓reduceIte, reduceLT, reduceLeDiff, reduceSub, reducePow, reduceMul, reduceToNat, reduceLE, reduceEq, Int.reduceLT, Int.reduceBEq, Int.reduceBNe]
  refine ops_call (g1) (by simp only [WearS.pv, intP, pairP, AW, reduceAdd, reduceCtorEq, reduceEqDiff, ↓reduceIte, reduceLT, reduceLeDiff, reduceSub, reducePow, reduceMul, reduceToNat, reduceLE, reduceEq, Int.reduceLT, Int.reduceBEq, Int.reduceBNe]) ?_; simp only [WearS.pv, intP, pairP, AW, reduceAdd, reduceCtorEq, reduceEqDiff, ↓reduceIte, reduceLT, reduceLeDiff, reduceSub, reducePow, reduceMul, reduceToNat, reduceLE, reduceEq, Int.reduceLT, Int.reduceBEq, Int.reduceBNe]
  cases c1 : ((ofW w rs b k f 4294944000).2 != 0)
  rotate_left
  · simp only [AW, reduceAdd, reduceCtorEq, reduceEqDiff, ↓reduceIte, reduceLT, reduceLeDiff, reduceSub, reducePow, reduceMul, reduceToNat, reduceLE, reduceEq, Int.reduceLT, Int.reduceBEq, Int.reduceBNe]
    rw [reachL_1 (by simpa using c1)]
    (try simp only [pairP, intP, AW, reduceAdd, reduceCtorEq, reduceEqDiff, ↓reduceIte, reduceLT, reduceLeDiff, reduceSub, reducePow, reduceMul, reduceToNat, reduceLE, reduceEq, Int.reduceLT, Int.reduceBEq, Int.reduceBNe])
  have o0 : (ofW w rs b k f 4294944000).2 = 0 := by simpa using c1
  obtain ⟨w0, k0, k1, z0⟩ := ofW_ok o0
  obtain ⟨q1, q2, q3, q4, q5⟩ := wear_ok w0
  obtain ⟨p1, p2, p3, p4, p5, p6, p7⟩ := win_ok z0
  have ho : ∀ r ∈ rs, LegsOk r := fun r hr => legs_ok (p7 r hr)
  have hrl : rs.length ≤ maxLen := by unfold maxLen; omega
  simp only [AW, reduceAdd, reduceCtorEq, reduceEqDiff, ↓reduceIte, reduceLT, reduceLeDiff, reduceSub, reducePow, reduceMul, reduceToNat, reduceLE, reduceEq, Int.reduceLT, Int.reduceBEq, Int.reduceBNe]
  cases c2 : decide (limit < 0)
  rotate_left
  · (try simp only [AW, reduceAdd, reduceCtorEq, reduceEqDiff, ↓reduceIte, reduceLT, reduceLeDiff, reduceSub, reducePow, reduceMul, reduceToNat, reduceLE, reduceEq, Int.reduceLT, Int.reduceBEq, Int.reduceBNe])
    rw [decide_eq_true_eq] at c2
    rw [reachL_2 o0 (.inl c2)]
    (try simp only [pairP, intP, AW, reduceAdd, reduceCtorEq, reduceEqDiff, ↓reduceIte, reduceLT, reduceLeDiff, reduceSub, reducePow, reduceMul, reduceToNat, reduceLE, reduceEq, Int.reduceLT, Int.reduceBEq, Int.reduceBNe])
  rw [decide_eq_false_iff_not] at c2
  (try simp only [AW, reduceAdd, reduceCtorEq, reduceEqDiff, ↓reduceIte, reduceLT, reduceLeDiff, reduceSub, reducePow, reduceMul, reduceToNat, reduceLE, reduceEq, Int.reduceLT, Int.reduceBEq, Int.reduceBNe])
  cases c3 : decide ((1125899906842624 : Int) < limit)
  rotate_left
  · (try simp only [AW, reduceAdd, reduceCtorEq, reduceEqDiff, ↓reduceIte, reduceLT, reduceLeDiff, reduceSub, reducePow, reduceMul, reduceToNat, reduceLE, reduceEq, Int.reduceLT, Int.reduceBEq, Int.reduceBNe])
    rw [decide_eq_true_eq] at c3
    rw [reachL_2 o0 (.inr c3)]
    (try simp only [pairP, intP, AW, reduceAdd, reduceCtorEq, reduceEqDiff, ↓reduceIte, reduceLT, reduceLeDiff, reduceSub, reducePow, reduceMul, reduceToNat, reduceLE, reduceEq, Int.reduceLT, Int.reduceBEq, Int.reduceBNe])
  rw [decide_eq_false_iff_not] at c3
  have c4 : ¬(limit < 0 ∨ 1125899906842624 < limit) := by omega
  obtain ⟨kk, rfl⟩ : ∃ kk : Nat, k = kk := ⟨k.toNat, by omega⟩
  have hk : kk < w.hour.length := by omega
  have hk2 : kk < w.ride.length := by omega
  have hwr := q5 _ (List.getElem_mem hk2)
  have hwh := q4 _ (List.getElem_mem hk)
  (try simp only [AW, reduceAdd, reduceCtorEq, reduceEqDiff, ↓reduceIte, reduceLT, reduceLeDiff, reduceSub, reducePow, reduceMul, reduceToNat, reduceLE, reduceEq, Int.reduceLT, Int.reduceBEq, Int.reduceBNe])
  refine run_loop (ι := Nat) (fun i => ⟨[(1, .sl (rs.map RideS.pv)), (2, .sc (.int .i64 b)), (3, .sc (.int .i64 (kk : Int))), (4, .sc (.int .i64 f)), (5, .sc (.int .i64 limit)), (6, .ptr 0 0), (16, .own 24 0), (44, .sl (rs.map RideS.pv)), (45, .sc (.int .i64 (rs.length : Int))), (46, .sc (.int .i64 (i : Int)))], [(0, .var [.sl (w.hour.map intP), .sl (w.ride.map intP)]), (24, .row 3 1 0 ((f :: atL b f rs i).map intP))], 29, 98⟩) (fun i => i ≤ rs.length) (fun i => rs.length - i) 29 (fun _ => rfl) 0 (by simp only [LW, Nat.reduceMod, Nat.reduceDiv, Int.natCast_zero, atL, List.take_zero, List.flatMap_nil, List.map_cons, List.map_nil, intP, AW, reduceAdd, reduceCtorEq, reduceEqDiff, ↓reduceIte, reduceLT, reduceLeDiff, reduceSub, reducePow, reduceMul, reduceToNat, reduceLE, reduceEq, Int.reduceLT, Int.reduceBEq, Int.reduceBNe]) (Nat.zero_le _) (fun i hi => ?_)
  have gi := hi
  by_cases hlti : i < rs.length
  rotate_left
  · have di : decide ((i : Int) < ((rs.length : Nat) : Int)) = false := by rw [decide_eq_false_iff_not]; exact fun h => hlti (Int.ofNat_lt.1 h)
    have ei : i = rs.length := Nat.le_antisymm gi (Nat.le_of_not_lt hlti)
    subst ei
    have hSl : 0 < (f :: atL b f rs rs.length).length := by simp
    have hSn : (f :: atL b f rs rs.length).length ≤ 1000000 := by have := atL_len (b := b) (f := f) ho rs.length (Nat.le_refl _); rw [List.length_cons]; omega
    simp only [di, AW, reduceAdd, reduceCtorEq, reduceEqDiff, ↓reduceIte, reduceLT, reduceLeDiff, reduceSub, reducePow, reduceMul, reduceToNat, reduceLE, reduceEq, Int.reduceLT, Int.reduceBEq, Int.reduceBNe]
    refine ops_callM (s := 24) (ver := 0) [] [] (sort_m (f :: atL b f rs rs.length) hSl hSn) (by simp only [AW, reduceAdd, reduceCtorEq, reduceEqDiff, ↓reduceIte, reduceLT, reduceLeDiff, reduceSub, reducePow, reduceMul, reduceToNat, reduceLE, reduceEq, Int.reduceLT, Int.reduceBEq, Int.reduceBNe]) (by simp only [AW, reduceAdd, reduceCtorEq, reduceEqDiff, ↓reduceIte, reduceLT, reduceLeDiff, reduceSub, reducePow, reduceMul, reduceToNat, reduceLE, reduceEq, Int.reduceLT, Int.reduceBEq, Int.reduceBNe]) (by simp only [List.not_mem_nil, AW, reduceAdd, reduceCtorEq, reduceEqDiff, ↓reduceIte, reduceLT, reduceLeDiff, reduceSub, reducePow, reduceMul, reduceToNat, reduceLE, reduceEq, Int.reduceLT, Int.reduceBEq, Int.reduceBNe]) (by simp only [AW, reduceAdd, reduceCtorEq, reduceEqDiff, ↓reduceIte, reduceLT, reduceLeDiff, reduceSub, reducePow, reduceMul, reduceToNat, reduceLE, reduceEq, Int.reduceLT, Int.reduceBEq, Int.reduceBNe]) (by simp only [AW, reduceAdd, reduceCtorEq, reduceEqDiff, ↓reduceIte, reduceLT, reduceLeDiff, reduceSub, reducePow, reduceMul, reduceToNat, reduceLE, reduceEq, Int.reduceLT, Int.reduceBEq, Int.reduceBNe]) ?_
    simp only [AW, reduceAdd, reduceCtorEq, reduceEqDiff, ↓reduceIte, reduceLT, reduceLeDiff, reduceSub, reducePow, reduceMul, reduceToNat, reduceLE, reduceEq, Int.reduceLT, Int.reduceBEq, Int.reduceBNe]
    have rc3 := fun t h => reachL_3 (t := t) o0 c4 h
    have rc4 := reachL_4 o0 c4
    have hSs := sortL_len (f :: atL b f rs rs.length)
    obtain ⟨S, hS⟩ : ∃ S, S = sortL (f :: atL b f rs rs.length) := ⟨_, rfl⟩
    rw [← hS] at rc3 rc4 hSs ⊢
    have hSm : S.length ≤ maxLen := by unfold maxLen; omega
    (try simp only [List.length_map, AW, reduceAdd, reduceCtorEq, reduceEqDiff, ↓reduceIte, reduceLT, reduceLeDiff, reduceSub, reducePow, reduceMul, reduceToNat, reduceLE, reduceEq, Int.reduceLT, Int.reduceBEq, Int.reduceBNe])
    refine run_loop (ι := Nat) (fun j => ⟨[(1, .sl (rs.map RideS.pv)), (2, .sc (.int .i64 b)), (3, .sc (.int .i64 (kk : Int))), (4, .sc (.int .i64 f)), (5, .sc (.int .i64 limit)), (6, .ptr 0 0), (79, .own 24 0), (80, .sc (.int .i64 (S.length : Int))), (81, .sc (.int .i64 (j : Int)))], [(0, .var [.sl (w.hour.map intP), .sl (w.ride.map intP)]), (24, .row 3 1 0 ((S).map intP))], 35, 98⟩) (fun j => j ≤ S.length ∧ (∀ q (hq : q < S.length), q < j → decide (limit ≤ wearAt w rs b f kk S[q]) = false)) (fun j => S.length - j) 35 (fun _ => rfl) 0 (by simp only [LW, Nat.reduceMod, Nat.reduceDiv, Int.natCast_zero, AW, reduceAdd, reduceCtorEq, reduceEqDiff, ↓reduceIte, reduceLT, reduceLeDiff, reduceSub, reducePow, reduceMul, reduceToNat, reduceLE, reduceEq, Int.reduceLT, Int.reduceBEq, Int.reduceBNe]) ⟨Nat.zero_le _, nofun⟩ (fun j hj => ?_)
    obtain ⟨gj, ij⟩ := hj
    by_cases hltj : j < S.length
    rotate_left
    · have dj : decide ((j : Int) < ((S.length : Nat) : Int)) = false := by rw [decide_eq_false_iff_not]; exact fun h => hltj (Int.ofNat_lt.1 h)
      have ej : j = S.length := Nat.le_antisymm gj (Nat.le_of_not_lt hltj)
      subst ej
      simp only [dj, AW, reduceAdd, reduceCtorEq, reduceEqDiff, ↓reduceIte, reduceLT, reduceLeDiff, reduceSub, reducePow, reduceMul, reduceToNat, reduceLE, reduceEq, Int.reduceLT, Int.reduceBEq, Int.reduceBNe]
      rw [rc4 (find_no (fun q hq => by simpa using ij q hq hq))]
      (try simp only [pairP, intP, AW, reduceAdd, reduceCtorEq, reduceEqDiff, ↓reduceIte, reduceLT, reduceLeDiff, reduceSub, reducePow, reduceMul, reduceToNat, reduceLE, reduceEq, Int.reduceLT, Int.reduceBEq, Int.reduceBNe])
    have dj : decide ((j : Int) < ((S.length : Nat) : Int)) = true := by rw [decide_eq_true_eq]; exact Int.ofNat_lt.2 hltj
    have n1 := useN_b (b := b) (f := f) (t := S[j]) ho rs.length (Nat.le_refl _)
    have n2 := use_sec (b := b) (f := f) (t := S[j]) p7 rs.length (Nat.le_refl _)
    simp only [dj, List.length_map, map_getD hltj, hltj, intP, AW, reduceAdd, reduceCtorEq, reduceEqDiff, ↓reduceIte, reduceLT, reduceLeDiff, reduceSub, reducePow, reduceMul, reduceToNat, reduceLE, reduceEq, Int.reduceLT, Int.reduceBEq, Int.reduceBNe]
    refine ops_call (use_g rs b f S[j] ho p6) (by simp only [intP, AW, reduceAdd, reduceCtorEq, reduceEqDiff, ↓reduceIte, reduceLT, reduceLeDiff, reduceSub, reducePow, reduceMul, reduceToNat, reduceLE, reduceEq, Int.reduceLT, Int.reduceBEq, Int.reduceBNe]) ?_; simp only [intP, AW, reduceAdd, reduceCtorEq, reduceEqDiff, ↓reduceIte, reduceLT, reduceLeDiff, reduceSub, reducePow, reduceMul, reduceToNat, reduceLE, reduceEq, Int.reduceLT, Int.reduceBEq, Int.reduceBNe]
    refine ops_call (worn_g w kk (useN b f S[j] rs rs.length) (useS b f S[j] rs rs.length) hk hk2 hwr hwh (by omega) (by omega)) (by simp only [WearS.pv, intP, AW, reduceAdd, reduceCtorEq, reduceEqDiff, ↓reduceIte, reduceLT, reduceLeDiff, reduceSub, reducePow, reduceMul, reduceToNat, reduceLE, reduceEq, Int.reduceLT, Int.reduceBEq, Int.reduceBNe]) ?_; simp only [WearS.pv, intP, AW, reduceAdd, reduceCtorEq, reduceEqDiff, ↓reduceIte, reduceLT, reduceLeDiff, reduceSub, reducePow, reduceMul, reduceToNat, reduceLE, reduceEq, Int.reduceLT, Int.reduceBEq, Int.reduceBNe]
    (try refine drawnK rfl ?_); (try simp only [AW, reduceAdd, reduceCtorEq, reduceEqDiff, ↓reduceIte, reduceLT, reduceLeDiff, reduceSub, reducePow, reduceMul, reduceToNat, reduceLE, reduceEq, Int.reduceLT, Int.reduceBEq, Int.reduceBNe])
    rw [show wornL w kk (useN b f S[j] rs rs.length) (useS b f S[j] rs rs.length) = wearAt w rs b f kk S[j] from rfl]
    cases c5 : decide (limit ≤ wearAt w rs b f kk S[j])
    · (try simp only [wrap_succ hltj hSm, AW, reduceAdd, reduceCtorEq, reduceEqDiff, ↓reduceIte, reduceLT, reduceLeDiff, reduceSub, reducePow, reduceMul, reduceToNat, reduceLE, reduceEq, Int.reduceLT, Int.reduceBEq, Int.reduceBNe])
      refine ⟨j + 1, ⟨hltj, fun q hq hqj => ?_⟩, ?_, meas_lt hltj⟩
      · by_cases e : q = j
        · subst e; exact c5
        · exact ij q hq (by omega)
      · simp only [LW, Nat.reduceMod, Nat.reduceDiv, AW, reduceAdd, reduceCtorEq, reduceEqDiff, ↓reduceIte, reduceLT, reduceLeDiff, reduceSub, reducePow, reduceMul, reduceToNat, reduceLE, reduceEq, Int.reduceLT, Int.reduceBEq, Int.reduceBNe]
    · (try simp only [AW, reduceAdd, reduceCtorEq, reduceEqDiff, ↓reduceIte, reduceLT, reduceLeDiff, reduceSub, reducePow, reduceMul, reduceToNat, reduceLE, reduceEq, Int.reduceLT, Int.reduceBEq, Int.reduceBNe])
      rw [rc3 _ (find_at hltj (by simpa using c5) (fun q hq hqj => by simpa using ij q hq hqj))]
      (try simp only [pairP, intP, AW, reduceAdd, reduceCtorEq, reduceEqDiff, ↓reduceIte, reduceLT, reduceLeDiff, reduceSub, reducePow, reduceMul, reduceToNat, reduceLE, reduceEq, Int.reduceLT, Int.reduceBEq, Int.reduceBNe])
  have di : decide ((i : Int) < ((rs.length : Nat) : Int)) = true := by rw [decide_eq_true_eq]; exact Int.ofNat_lt.2 hlti
  have hr := ho _ (List.getElem_mem hlti)
  have hr5 := hr.len
  have hk512 : rs[i].legs.length ≤ maxLen := by unfold maxLen; omega
  have hAl := atL_len (b := b) (f := f) ho i gi
  simp only [di, map_getD hlti, hlti, RideS.pv, AW, reduceAdd, reduceCtorEq, reduceEqDiff, ↓reduceIte, reduceLT, reduceLeDiff, reduceSub, reducePow, reduceMul, reduceToNat, reduceLE, reduceEq, Int.reduceLT, Int.reduceBEq, Int.reduceBNe]
  refine run_loop (ι := Nat) (fun m => ⟨[(1, .sl (rs.map RideS.pv)), (2, .sc (.int .i64 b)), (3, .sc (.int .i64 (kk : Int))), (4, .sc (.int .i64 f)), (5, .sc (.int .i64 limit)), (6, .ptr 0 0), (16, .own 24 0), (44, .sl (rs.map RideS.pv)), (45, .sc (.int .i64 (rs.length : Int))), (46, .sc (.int .i64 (i : Int))), (51, .sl (rs[i].legs.map LegS.pv)), (52, .sc (.int .i64 (rs[i].legs.length : Int))), (53, .sc (.int .i64 (m : Int)))], [(0, .var [.sl (w.hour.map intP), .sl (w.ride.map intP)]), (24, .row 3 1 0 ((f :: (atL b f rs i ++ atR b f rs[i] m)).map intP)), (32, .var [.sc (.int .i64 rs[i].id), .sc (.int .i64 rs[i].rider), .sc (.int .i64 rs[i].start.lo), .sc (.int .i64 rs[i].start.hi), .sc (.int .i64 rs[i].end_.lo), .sc (.int .i64 rs[i].end_.hi), .sc (.bool rs[i].open_), .sl (rs[i].legs.map LegS.pv), .sl (rs[i].pauses.map PauseS.pv), .sc (.int .i64 rs[i].fromWhere), .sc (.int .i64 rs[i].fromPlace), .sc (.int .i64 rs[i].where_), .sc (.int .i64 rs[i].place)])], 38, 98⟩) (fun m => m ≤ rs[i].legs.length) (fun m => rs[i].legs.length - m) 38 (fun _ => rfl) 0 (by simp only [LW, Nat.reduceMod, Nat.reduceDiv, Int.natCast_zero, atR, List.take_zero, List.filter_nil, List.map_nil, List.append_nil, AW, reduceAdd, reduceCtorEq, reduceEqDiff, ↓reduceIte, reduceLT, reduceLeDiff, reduceSub, reducePow, reduceMul, reduceToNat, reduceLE, reduceEq, Int.reduceLT, Int.reduceBEq, Int.reduceBNe]) (Nat.zero_le _) (fun m hm => ?_)
  have gm := hm
  by_cases hltm : m < rs[i].legs.length
  rotate_left
  · have dm : decide ((m : Int) < ((rs[i].legs.length : Nat) : Int)) = false := by rw [decide_eq_false_iff_not]; exact fun h => hltm (Int.ofNat_lt.1 h)
    have em : m = rs[i].legs.length := Nat.le_antisymm gm (Nat.le_of_not_lt hltm)
    subst em
    simp only [dm, wrap_succ hlti hrl, AW, reduceAdd, reduceCtorEq, reduceEqDiff, ↓reduceIte, reduceLT, reduceLeDiff, reduceSub, reducePow, reduceMul, reduceToNat, reduceLE, reduceEq, Int.reduceLT, Int.reduceBEq, Int.reduceBNe]
    refine ⟨i + 1, hlti, ?_, meas_lt hlti⟩
    simp only [LW, Nat.reduceMod, Nat.reduceDiv, atL_succ hlti, AW, reduceAdd, reduceCtorEq, reduceEqDiff, ↓reduceIte, reduceLT, reduceLeDiff, reduceSub, reducePow, reduceMul, reduceToNat, reduceLE, reduceEq, Int.reduceLT, Int.reduceBEq, Int.reduceBNe]
  have dm : decide ((m : Int) < ((rs[i].legs.length : Nat) : Int)) = true := by rw [decide_eq_true_eq]; exact Int.ofNat_lt.2 hltm
  have hrng := hr.rng m hltm
  have hRl := atR_len b f rs[i] m
  have l0 : (f :: (atL b f rs i ++ atR b f rs[i] m)).length ≤ 200000 := by rw [List.length_cons, List.length_append]; omega
  have hyes := atR_yes (b := b) (f := f) (r := rs[i]) hltm
  have hno := atR_no (b := b) (f := f) (r := rs[i]) hltm
  have w1 : IntKind.i64.wrap (rs[i].legs[m].from_.lo + 1) = rs[i].legs[m].from_.lo + 1 := wrap_id ⟨by omega, by omega⟩
  obtain ⟨A, hA⟩ : ∃ A, A = f :: (atL b f rs i ++ atR b f rs[i] m) := ⟨_, rfl⟩
  rw [← hA] at l0 ⊢
  have l1 : A.length + 1 ≤ maxLen := by unfold maxLen; omega
  have l2 : (A.length + 1) * 8 ≤ 140737488355328 := by omega
  simp only [dm, map_getD hltm, hltm, LegS.pv, LegS.vals, AW, reduceAdd, reduceCtorEq, reduceEqDiff, ↓reduceIte, reduceLT, reduceLeDiff, reduceSub, reducePow, reduceMul, reduceToNat, reduceLE, reduceEq, Int.reduceLT, Int.reduceBEq, Int.reduceBNe]
  cases d1 : (rs[i].legs[m].bike == b)
  · (try simp only [AW, reduceAdd, reduceCtorEq, reduceEqDiff, ↓reduceIte, reduceLT, reduceLeDiff, reduceSub, reducePow, reduceMul, reduceToNat, reduceLE, reduceEq, Int.reduceLT, Int.reduceBEq, Int.reduceBNe])
    (try refine drawnK rfl ?_); (try simp only [AW, reduceAdd, reduceCtorEq, reduceEqDiff, ↓reduceIte, reduceLT, reduceLeDiff, reduceSub, reducePow, reduceMul, reduceToNat, reduceLE, reduceEq, Int.reduceLT, Int.reduceBEq, Int.reduceBNe])
    (try simp only [wrap_succ hltm hk512, AW, reduceAdd, reduceCtorEq, reduceEqDiff, ↓reduceIte, reduceLT, reduceLeDiff, reduceSub, reducePow, reduceMul, reduceToNat, reduceLE, reduceEq, Int.reduceLT, Int.reduceBEq, Int.reduceBNe])
    refine ⟨m + 1, hltm, ?_, meas_lt hltm⟩
    simp only [LW, Nat.reduceMod, Nat.reduceDiv, hno (by simp [legAt, d1]), hA, AW, reduceAdd, reduceCtorEq, reduceEqDiff, ↓reduceIte, reduceLT, reduceLeDiff, reduceSub, reducePow, reduceMul, reduceToNat, reduceLE, reduceEq, Int.reduceLT, Int.reduceBEq, Int.reduceBNe]
  (try simp only [map_getD hltm, hltm, LegS.pv, LegS.vals, AW, reduceAdd, reduceCtorEq, reduceEqDiff, ↓reduceIte, reduceLT, reduceLeDiff, reduceSub, reducePow, reduceMul, reduceToNat, reduceLE, reduceEq, Int.reduceLT, Int.reduceBEq, Int.reduceBNe])
  cases d2 : decide (f ≤ rs[i].legs[m].from_.lo)
  · (try simp only [AW, reduceAdd, reduceCtorEq, reduceEqDiff, ↓reduceIte, reduceLT, reduceLeDiff, reduceSub, reducePow, reduceMul, reduceToNat, reduceLE, reduceEq, Int.reduceLT, Int.reduceBEq, Int.reduceBNe])
    (try refine drawnK rfl ?_); (try simp only [AW, reduceAdd, reduceCtorEq, reduceEqDiff, ↓reduceIte, reduceLT, reduceLeDiff, reduceSub, reducePow, reduceMul, reduceToNat, reduceLE, reduceEq, Int.reduceLT, Int.reduceBEq, Int.reduceBNe])
    (try simp only [wrap_succ hltm hk512, AW, reduceAdd, reduceCtorEq, reduceEqDiff, ↓reduceIte, reduceLT, reduceLeDiff, reduceSub, reducePow, reduceMul, reduceToNat, reduceLE, reduceEq, Int.reduceLT, Int.reduceBEq, Int.reduceBNe])
    refine ⟨m + 1, hltm, ?_, meas_lt hltm⟩
    simp only [LW, Nat.reduceMod, Nat.reduceDiv, hno (by simp only [legAt, d1, d2, Bool.and_false]), hA, AW, reduceAdd, reduceCtorEq, reduceEqDiff, ↓reduceIte, reduceLT, reduceLeDiff, reduceSub, reducePow, reduceMul, reduceToNat, reduceLE, reduceEq, Int.reduceLT, Int.reduceBEq, Int.reduceBNe]
  · (try simp only [w1, List.length_map, l1, l2, AW, reduceAdd, reduceCtorEq, reduceEqDiff, ↓reduceIte, reduceLT, reduceLeDiff, reduceSub, reducePow, reduceMul, reduceToNat, reduceLE, reduceEq, Int.reduceLT, Int.reduceBEq, Int.reduceBNe])
    (try refine drawnK rfl ?_); (try simp only [w1, List.length_map, l1, l2, AW, reduceAdd, reduceCtorEq, reduceEqDiff, ↓reduceIte, reduceLT, reduceLeDiff, reduceSub, reducePow, reduceMul, reduceToNat, reduceLE, reduceEq, Int.reduceLT, Int.reduceBEq, Int.reduceBNe])
    (try simp only [wrap_succ hltm hk512, AW, reduceAdd, reduceCtorEq, reduceEqDiff, ↓reduceIte, reduceLT, reduceLeDiff, reduceSub, reducePow, reduceMul, reduceToNat, reduceLE, reduceEq, Int.reduceLT, Int.reduceBEq, Int.reduceBNe])
    refine ⟨m + 1, hltm, ?_, meas_lt hltm⟩
    simp only [LW, Nat.reduceMod, Nat.reduceDiv, hyes (by simp only [legAt, d1, d2, Bool.and_true]), hA, List.map_append, List.map_cons, List.map_nil, intP, List.cons_append, List.append_assoc, AW, reduceAdd, reduceCtorEq, reduceEqDiff, ↓reduceIte, reduceLT, reduceLeDiff, reduceSub, reducePow, reduceMul, reduceToNat, reduceLE, reduceEq, Int.reduceLT, Int.reduceBEq, Int.reduceBNe]


end Go.Proofs.Ythgnbkcopapbmaa
