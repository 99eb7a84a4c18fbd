/-
  Strings: cut at blanks; a beginning; equal lists; what panics.
-/
import Derived.Test.YtjnfldkcbcfboaaGreatDoorF6
import Derived.Shelf.Strings.Split
import Derived.Lib.SplitLaws
namespace Go.Proofs.YtjnfldkcbcfboaaGreatDoor
open Go.RowKit
open Nat (reduceAdd reduceEqDiff reduceLT reduceLeDiff reduceSub reducePow reduceMul)
open Int (reduceToNat reduceLE reduceEq)
set_option linter.unusedVariables false
set_option linter.unusedSimpArgs false
set_option linter.unnecessarySimpa false


/-- The parts of a line between its blanks. -/
def splitW : List UInt8 → List (List UInt8)
  | [] => [[]]
  | c :: l => if c = 32 then [] :: splitW l else (c :: (splitW l).headD []) :: (splitW l).tail
theorem splitW_ne : ∀ l, splitW l ≠ []
  | [] => by simp [splitW]
  | c :: l => by unfold splitW; split <;> simp
theorem splitW_cons (l : List UInt8) : splitW l = (splitW l).headD [] :: (splitW l).tail := by
  have := splitW_ne l
  cases h : splitW l with
  | nil => exact absurd h this
  | cons x r => rfl
theorem index_cons_ne {b : UInt8} (l : List UInt8) (h : b ≠ 32) : Lib.index (b :: l) [32] = if Lib.index l [32] == -1 then -1 else Lib.index l [32] + 1 := by
  have hp : ([32] : List UInt8).isPrefixOf (b :: l) = false := by simp [List.isPrefixOf, Ne.symm h]
  rw [Lib.index, hp]; simp
theorem split_eq : ∀ l : List UInt8, Lib.split l [32] = splitW l
  | [] => by
    unfold Lib.split
    rw [Lib.count_miss (by simp [Lib.index])]; rfl
  | b :: l => by
    have ih := split_eq l
    unfold Lib.split at ih ⊢
    unfold splitW
    by_cases h : b = 32
    · subst h
      have hix : Lib.index (32 :: l) [32] = ((0 : Nat) : Int) := by rw [Lib.index]; simp [List.isPrefixOf]
      rw [if_pos rfl, Lib.count_cons_eq, Nat.add_comm 1, Lib.splitK, if_neg (by rw [hix]; decide), hix, ← ih]
      rfl
    · rw [if_neg h, Lib.count_cons_ne b 32 l h]
      have hge := Lib.index_ge l [32]
      by_cases hm : Lib.index l [32] = -1
      · rw [Lib.count_miss hm] at ih ⊢
        rw [← ih]; rfl
      · obtain ⟨j, hj⟩ : ∃ j : Nat, Lib.index l [32] = j := ⟨(Lib.index l [32]).toNat, by omega⟩
        have hix' : Lib.index (b :: l) [32] = ((j + 1 : Nat) : Int) := by rw [index_cons_ne l h, if_neg (fun e => hm (beq_iff_eq.1 e)), hj]; omega
        rw [Lib.count_hit (by simp) hj, Nat.add_comm 1] at ih ⊢
        rw [Lib.splitK, if_neg (by rw [hix']; simp <;> omega), hix']
        rw [Lib.splitK, if_neg (by rw [hj]; simp <;> omega), hj] at ih
        rw [← ih]
        simp
theorem splitW_len : ∀ l : List UInt8, (splitW l).length ≤ l.length + 1
  | [] => by simp [splitW]
  | c :: l => by
    have h := splitW_len l
    unfold splitW; split
    · simp; omega
    · simp; omega
theorem splitW_mem : ∀ (l : List UInt8), ∀ x ∈ splitW l, x.length ≤ l.length
  | [], x, hx => by simp [splitW] at hx; subst hx; simp
  | c :: l, x, hx => by
    have h := splitW_mem l
    unfold splitW at hx
    split at hx
    · rcases List.mem_cons.1 hx with rfl | hx
      · simp
      · have := h x hx; simp; omega
    · rcases List.mem_cons.1 hx with rfl | hx
      · have : (splitW l).headD [] ∈ splitW l := by rw [splitW_cons l]; simp
        have := h _ this; rw [List.length_cons, List.length_cons]; omega
      · have := h x (List.mem_of_mem_tail hx); simp; omega
/-- A word without a blank, and the rest. -/
theorem splitW_word {w : List UInt8} (h : (32 : UInt8) ∉ w) : splitW w = [w] := by
  induction w with
  | nil => rfl
  | cons c l ih =>
    have hc : c ≠ 32 := fun e => h (by rw [e]; exact List.mem_cons_self)
    have := ih (fun hh => h (List.mem_cons_of_mem _ hh))
    unfold splitW; rw [if_neg hc, this]; rfl
theorem splitW_app {w : List UInt8} (h : (32 : UInt8) ∉ w) (l : List UInt8) : splitW (w ++ 32 :: l) = w :: splitW l := by
  induction w with
  | nil => show splitW (32 :: l) = _; rw [splitW, if_pos rfl]
  | cons c u ih =>
    have hc : c ≠ 32 := fun e => h (by rw [e]; exact List.mem_cons_self)
    have := ih (fun hh => h (List.mem_cons_of_mem _ hh))
    show splitW (c :: (u ++ 32 :: l)) = _
    rw [splitW, if_neg hc, this]; rfl
theorem splitW_words {w : List UInt8} {ws : List (List UInt8)} (h : (32 : UInt8) ∉ w) (hs : ∀ x ∈ ws, (32 : UInt8) ∉ x) : splitW (wordsL w ws) = w :: ws := by
  induction ws generalizing w with
  | nil => unfold wordsL; rw [List.flatMap_nil, List.append_nil]; exact splitW_word h
  | cons x r ih =>
    have := ih (w := x) (hs x List.mem_cons_self) (fun y hy => hs y (List.mem_cons_of_mem _ hy))
    have e : wordsL w (x :: r) = w ++ 32 :: wordsL x r := by unfold wordsL; rw [List.flatMap_cons]; simp
    rw [e, splitW_app h, this]
theorem dg_blank (m j : Nat) : Lib.dg m j ≠ 32 := by
  intro h
  have := dg_nat m j
  rw [h] at this
  have h9 : m / 10 ^ j % 10 < 10 := Nat.mod_lt _ (by decide)
  simp at this; omega
theorem dec_blank (n : Int) : (32 : UInt8) ∉ dec n := by
  have hd : ∀ m : Nat, (32 : UInt8) ∉ Lib.decDigits m := fun m h => by
    rw [← sufL_dec, sufL_map] at h
    obtain ⟨t, _, ht⟩ := List.mem_map.1 h
    exact dg_blank _ _ ht
  unfold dec Lib.itoa
  split
  · intro h
    rcases List.mem_cons.1 h with h | h
    · exact absurd h (by decide)
    · exact hd _ h
  · exact hd _
def hpB (s p : List UInt8) : Bool := decide (p.length ≤ s.length) && decide (s.take p.length = p)
def laysSplit_ren : Go.Shelf.Ren := ⟨fun | 146 => 45 | 221 => 58 | 268 => 71 | 138 => 72 | 143 => 73 | 195 => 84 | 197 => 85 | 218 => 86 | 219 => 87 | 260 => 93 | 217 => 94 | 225 => 95 | 224 => 96 | 267 => 97 | 266 => 100 | 314 => 101 | n => n, fun | 9 => 9 | 31 => 22 | 3 => 3 | 4 => 4 | 0 => 0 | 105 => 119 | 21 => 21 | 5 => 5 | 46 => 117 | 119 => 136 | 139 => 139 | 138 => 138 | 146 => 140 | 51 => 115 | n => n, fun | 1 => 0 | 3 => 6 | 4 => 7 | n => n⟩
theorem laysSplit : Lays.n146 Tryz.prog laysSplit_ren := {
  mixed := by kernel_rfl
  f138 := Tryz.func72.trans (congrArg some (by kernel_rfl))
  f143 := Tryz.func73.trans (congrArg some (by kernel_rfl))
  f146 := Tryz.func45.trans (congrArg some (by kernel_rfl))
  f195 := Tryz.func84.trans (congrArg some (by kernel_rfl))
  f197 := Tryz.func85.trans (congrArg some (by kernel_rfl))
  f217 := Tryz.func94.trans (congrArg some (by kernel_rfl))
  f218 := Tryz.func86.trans (congrArg some (by kernel_rfl))
  f219 := Tryz.func87.trans (congrArg some (by kernel_rfl))
  f221 := Tryz.func58.trans (congrArg some (by kernel_rfl))
  f224 := Tryz.func96.trans (congrArg some (by kernel_rfl))
  f225 := Tryz.func95.trans (congrArg some (by kernel_rfl))
  f260 := Tryz.func93.trans (congrArg some (by kernel_rfl))
  f266 := Tryz.func100.trans (congrArg some (by kernel_rfl))
  f267 := Tryz.func97.trans (congrArg some (by kernel_rfl))
  f268 := Tryz.func71.trans (congrArg some (by kernel_rfl))
  f314 := Tryz.func101.trans (congrArg some (by kernel_rfl))
  t0 := Tryz.underlying0
  a0 := Tryz.isAgg0
  z0 := Tryz.sizeOf0
  v0 := Tryz.zeroValue0
  t3 := Tryz.underlying3
  a3 := Tryz.isAgg3
  z3 := Tryz.sizeOf3
  v3 := Tryz.zeroValue3
  t4 := Tryz.underlying4
  a4 := Tryz.isAgg4
  z4 := Tryz.sizeOf4
  v4 := Tryz.zeroValue4
  t5 := Tryz.underlying5
  a5 := Tryz.isAgg5
  z5 := Tryz.sizeOf5
  v5 := Tryz.zeroValue5
  t9 := Tryz.underlying9
  a9 := Tryz.isAgg9
  z9 := Tryz.sizeOf9
  v9 := Tryz.zeroValue9
  t21 := Tryz.underlying21
  a21 := Tryz.isAgg21
  z21 := Tryz.sizeOf21
  v21 := Tryz.zeroValue21
  t31 := Tryz.underlying22
  a31 := Tryz.isAgg22
  z31 := Tryz.sizeOf22
  v31 := Tryz.zeroValue22
  t46 := Tryz.underlying117
  a46 := Tryz.isAgg117
  z46 := Tryz.sizeOf117
  v46 := Tryz.zeroValue117
  t51 := Tryz.underlying115
  a51 := Tryz.isAgg115
  z51 := Tryz.sizeOf115
  v51 := Tryz.zeroValue115
  t105 := Tryz.underlying119
  a105 := Tryz.isAgg119
  z105 := Tryz.sizeOf119
  v105 := Tryz.zeroValue119
  t119 := Tryz.underlying136
  a119 := Tryz.isAgg136
  z119 := Tryz.sizeOf136
  t138 := Tryz.underlying138
  a138 := Tryz.isAgg138
  z138 := Tryz.sizeOf138
  v138 := Tryz.zeroValue138
  t139 := Tryz.underlying139
  a139 := Tryz.isAgg139
  z139 := Tryz.sizeOf139
  v139 := Tryz.zeroValue139
  t146 := Tryz.underlying140
  a146 := Tryz.isAgg140
  z146 := Tryz.sizeOf140
  v146 := Tryz.zeroValue140
  g1 := by kernel_rfl
  g3 := by kernel_rfl
  g4 := by kernel_rfl }

theorem glob_max {w : World} {H : Nat} (h : GlobW w H) : ∃ m, w.cell? ⟨0, 0, none⟩ = some (.int .i64 m) := by
  obtain ⟨_, b, hb, m, ty, x, rfl⟩ := h _ (List.Mem.tail _ (List.Mem.tail _ (List.Mem.tail _ (List.Mem.head _))))
  exact ⟨m, by rw [cell_of_row w 0 0 _ ty x hb]; rfl⟩
set_option maxHeartbeats 1000000 in
theorem split_g (s : List UInt8) (hs : s.length ≤ 1000000) : Good Tryz.prog 45 [txP s, txP [32]] (.sl ((splitW s).map txP)) := by
  intro M w vs hM hp hG
  obtain ⟨v1, vs1, rfl, h1, hp⟩ := pw_cons.1 hp
  obtain ⟨v2, vs2, rfl, h2, hp⟩ := pw_cons.1 hp
  rw [pw_nil] at hp; subst hp
  have e1 : v1 = .string (bA s) := h1.sc_inv
  have e2 : v2 = .string (bA [32]) := h2.sc_inv
  subst e1 e2
  obtain ⟨m, hm⟩ := glob_max hG
  have hc : (Lib.splitB (bA [32]) 0 (Lib.countB (bA s) (bA [32])) (bA s)) = (splitW s).map bA := by
    have := Lib.splitB_data (bA [32]) 0 (Lib.countB (bA s) (bA [32])) (bA s)
    rw [bA_data, bA_data] at this
    have e : Lib.splitK [32] 0 (Lib.countB (bA s) (bA [32])) s = splitW s := by
      rw [← split_eq]; unfold Lib.split
      show Lib.splitK [32] 0 (Lib.count (bA s).data.toList (bA [32]).data.toList) s = _
      rw [bA_data, bA_data]
    rw [e] at this
    rw [← this, List.map_map]
    conv => lhs; rw [← List.map_id (Lib.splitB _ _ _ _)]
    exact List.map_congr_left (fun x _ => (bA_of x).symm)
  have hl : Lib.countB (bA s) (bA [32]) + 1 = (splitW s).length := by
    have := Lib.splitB_all (bA [32]) (by rw [bA_size]; decide) 0 _ (bA s) rfl
    rw [hc, List.length_map] at this; omega
  refine (Any.strings_Split laysSplit (by kernel_rfl) (bA s) (bA [32]) m w (by rw [bA_size]; omega) hm (by rw [bA_size]; decide)).mono ?_
  rintro e w' ⟨rfl, rfl⟩
  rw [hl, hc]
  refine ⟨_, rfl, (Below.refl _ _).alloc (Nat.le_refl _) _, ?_⟩
  have hsl := splitW_len s
  refine rep_sl txP (n := 1) (fun i => [.string (bA ((splitW s).getD i []))]) (fun x _ => rfl) (Nat.le_refl _) (by unfold maxLen; omega) (fun e => by cases e) (fun _ => ⟨w.heap.size, 0, rfl, by simp, fun hh => absurd (hM _ hh) (Nat.lt_irrefl _), fun i hi => ⟨?_, ?_⟩⟩)
  · have e : (splitW s).getD i [] = (splitW s)[i] := by rw [List.getD_eq_getElem?_getD, List.getElem?_eq_getElem hi]; rfl
    rw [e]
    have hmem := splitW_mem s _ (List.getElem_mem hi)
    exact pw_cons.2 ⟨_, _, rfl, .sc _ (rng_str.2 (by omega)), pw_nil.2 rfl⟩
  · intro j u hu
    cases j with
    | succ j => simp at hu
    | zero =>
      simp only [List.getElem?_cons_zero, Option.some.injEq] at hu
      subst hu
      rw [World.cell?_alloc_at _ _ _ _ rfl]
      rw [List.getD_eq_getElem?_getD, List.getElem?_eq_getElem hi]
      simp [List.getElem?_map, List.getElem?_eq_getElem hi]
set_option maxHeartbeats 1000000 in
theorem hpq_g (s p : List UInt8) : Good Tryz.prog 46 [txP s, txP p] (.sc (.bool (hpB s p))) := by
  refine good46 (by simp) ?_
  simp only [ac46, txP, bA_size, hpB, AW, reduceAdd, reduceCtorEq, reduceEqDiff, ↓reduceIte, reduceLT, reduceLeDiff, reduceSub, reducePow, reduceMul, reduceToNat, reduceLE, reduceEq, Int.reduceLT, Int.reduceBEq, Int.reduceBNe]
  by_cases h : p.length ≤ s.length
  · have d : decide ((p.length : Int) ≤ (s.length : Int)) = true := by rw [decide_eq_true_eq]; omega
    have d2 : decide (p.length ≤ s.length) = true := decide_eq_true h
    simp only [d, d2, bA_size, h, bA_extract, bA_beq, List.drop_zero, AW, reduceAdd, reduceCtorEq, reduceEqDiff, ↓reduceIte, reduceLT, reduceLeDiff, reduceSub, reducePow, reduceMul, reduceToNat, reduceLE, reduceEq, Int.reduceLT, Int.reduceBEq, Int.reduceBNe]
  · have d : decide ((p.length : Int) ≤ (s.length : Int)) = false := by rw [decide_eq_false_iff_not]; omega
    have d2 : decide (p.length ≤ s.length) = false := decide_eq_false h
    simp only [d, d2, AW, reduceAdd, reduceCtorEq, reduceEqDiff, ↓reduceIte, reduceLT, reduceLeDiff, reduceSub, reducePow, reduceMul, reduceToNat, reduceLE, reduceEq, Int.reduceLT, Int.reduceBEq, Int.reduceBNe]
theorem hp_g (s p : List UInt8) : Good Tryz.prog 28 [txP s, txP p] (.sc (.bool (hpB s p))) := by
  refine good28 (by simp) ?_
  simp only [ac28, txP, AW, reduceAdd, reduceCtorEq, reduceEqDiff, ↓reduceIte, reduceLT, reduceLeDiff, reduceSub, reducePow, reduceMul, reduceToNat, reduceLE, reduceEq, Int.reduceLT, Int.reduceBEq, Int.reduceBNe]
  refine ops_call (hpq_g s p) (by simp only [txP, AW, reduceAdd, reduceCtorEq, reduceEqDiff, ↓reduceIte, reduceLT, reduceLeDiff, reduceSub, reducePow, reduceMul, reduceToNat, reduceLE, reduceEq, Int.reduceLT, Int.reduceBEq, Int.reduceBNe]) ?_; simp only [txP, AW, reduceAdd, reduceCtorEq, reduceEqDiff, ↓reduceIte, reduceLT, reduceLeDiff, reduceSub, reducePow, reduceMul, reduceToNat, reduceLE, reduceEq, Int.reduceLT, Int.reduceBEq, Int.reduceBNe]
set_option maxHeartbeats 1000000 in
theorem eqS_g (l m : List (List UInt8)) : Good Tryz.prog 15 [.sl (l.map txP), .sl (m.map txP)] (.sc (.bool (decide (l = m)))) := by
  refine .len (es := l.map txP) (by simp) (fun hlen => ?_)
  rw [List.length_map] at hlen
  refine good15 (by simp) ?_
  by_cases he : l.length = m.length
  rotate_left
  · have d0 : ((l.length : Int) != m.length) = true := by simp; omega
    simp only [ac15, d0, List.length_map, AW, reduceAdd, reduceCtorEq, reduceEqDiff, ↓reduceIte, reduceLT, reduceLeDiff, reduceSub, reducePow, reduceMul, reduceToNat, reduceLE, reduceEq, Int.reduceLT, Int.reduceBEq, Int.reduceBNe]
    have : decide (l = m) = false := by
      rw [decide_eq_false_iff_not]; intro e; subst e; exact he rfl
    rw [this]
  have d0 : ((l.length : Int) != m.length) = false := by simp [he]
  simp only [ac15, d0, List.length_map, AW, reduceAdd, reduceCtorEq, reduceEqDiff, ↓reduceIte, reduceLT, reduceLeDiff, reduceSub, reducePow, reduceMul, reduceToNat, reduceLE, reduceEq, Int.reduceLT, Int.reduceBEq, Int.reduceBNe]
  refine run_loop (ι := Nat) (fun k => ⟨[(0, .sl (l.map txP)), (1, .sl (m.map txP)), (12, .sc (.int .i64 (l.length : Int))), (13, .sc (.int .i64 (k : Int)))], [], 9, 26⟩) (fun k => k ≤ l.length ∧ (∀ j (hj : j < l.length), j < k → l[j] = m[j]'(by omega))) (fun k => l.length - k) 9 (fun _ => rfl) 0 (by simp only [LW, Nat.reduceMod, Nat.reduceDiv, Int.natCast_zero, List.length_map, AW, reduceAdd, reduceCtorEq, reduceEqDiff, ↓reduceIte, reduceLT, reduceLeDiff, reduceSub, reducePow, reduceMul, reduceToNat, reduceLE, reduceEq, Int.reduceLT, Int.reduceBEq, Int.reduceBNe]) ⟨Nat.zero_le _, nofun⟩ (fun k hk => ?_)
  obtain ⟨gk, ik⟩ := hk
  by_cases hltk : k < l.length
  rotate_left
  · have dk : decide ((k : Int) < ((l.length : Nat) : Int)) = false := by rw [decide_eq_false_iff_not]; exact fun h => hltk (Int.ofNat_lt.1 h)
    have ek : k = l.length := Nat.le_antisymm gk (Nat.le_of_not_lt hltk)
    subst ek
    simp only [dk, AW, reduceAdd, reduceCtorEq, reduceEqDiff, ↓reduceIte, reduceLT, reduceLeDiff, reduceSub, reducePow, reduceMul, reduceToNat, reduceLE, reduceEq, Int.reduceLT, Int.reduceBEq, Int.reduceBNe]
    have : l = m := List.ext_getElem he (fun j hj _ => ik j hj (by omega))
    subst this; simp
  have dk : decide ((k : Int) < ((l.length : Nat) : Int)) = true := by rw [decide_eq_true_eq]; exact Int.ofNat_lt.2 hltk
  have hlt2 : k < m.length := by omega
  simp only [dk, map_getD hltk, map_getD hlt2, hltk, hlt2, txP, bA_beq, List.length_map, AW, reduceAdd, reduceCtorEq, reduceEqDiff, ↓reduceIte, reduceLT, reduceLeDiff, reduceSub, reducePow, reduceMul, reduceToNat, reduceLE, reduceEq, Int.reduceLT, Int.reduceBEq, Int.reduceBNe]
  by_cases hs : l[k] = m[k]
  · have ds : decide (l[k] = m[k]) = true := decide_eq_true hs
    simp only [ds, AW, reduceAdd, reduceCtorEq, reduceEqDiff, ↓reduceIte, reduceLT, reduceLeDiff, reduceSub, reducePow, reduceMul, reduceToNat, reduceLE, reduceEq, Int.reduceLT, Int.reduceBEq, Int.reduceBNe]
    refine drawnK rfl ?_; (try simp only [wrap_succ hltk hlen, AW, reduceAdd, reduceCtorEq, reduceEqDiff, ↓reduceIte, reduceLT, reduceLeDiff, reduceSub, reducePow, reduceMul, reduceToNat, reduceLE, reduceEq, Int.reduceLT, Int.reduceBEq, Int.reduceBNe])
    refine ⟨k + 1, ⟨hltk, fun j hj hjk => ?_⟩, ?_, by omega⟩
    · by_cases e : j = k
      · subst e; exact hs
      · exact ik j hj (by omega)
    · simp only [LW, Nat.reduceMod, Nat.reduceDiv, AW, reduceAdd, reduceCtorEq, reduceEqDiff, ↓reduceIte, reduceLT, reduceLeDiff, reduceSub, reducePow, reduceMul, reduceToNat, reduceLE, reduceEq, Int.reduceLT, Int.reduceBEq, Int.reduceBNe]
  have ds : decide (l[k] = m[k]) = false := decide_eq_false hs
  have : decide (l = m) = false := by
    rw [decide_eq_false_iff_not]; intro e; subst e; exact hs rfl
  rw [this]
  simp only [ds, AW, reduceAdd, reduceCtorEq, reduceEqDiff, ↓reduceIte, reduceLT, reduceLeDiff, reduceSub, reducePow, reduceMul, reduceToNat, reduceLE, reduceEq, Int.reduceLT, Int.reduceBEq, Int.reduceBNe]
  (first | exact rfl | (refine drawnK rfl ?_; (try simp only [AW, reduceAdd, reduceCtorEq, reduceEqDiff, ↓reduceIte, reduceLT, reduceLeDiff, reduceSub, reducePow, reduceMul, reduceToNat, reduceLE, reduceEq, Int.reduceLT, Int.reduceBEq, Int.reduceBNe])) | skip)
set_option maxHeartbeats 1000000 in
theorem sameL_g (l : List (List UInt8)) : Good Tryz.prog 11 [.sl (l.map txP), .sl (l.map txP)] (.sc (.bool true)) := by
  refine .len (es := l.map txP) (by simp) (fun hlen => ?_)
  rw [List.length_map] at hlen
  refine good11 (by simp) ?_
  have d0 : ((l.length : Int) != l.length) = false := by simp
  simp only [ac11, d0, List.length_map, AW, reduceAdd, reduceCtorEq, reduceEqDiff, ↓reduceIte, reduceLT, reduceLeDiff, reduceSub, reducePow, reduceMul, reduceToNat, reduceLE, reduceEq, Int.reduceLT, Int.reduceBEq, Int.reduceBNe]
  refine run_loop (ι := Nat) (fun k => ⟨[(0, .sl (l.map txP)), (1, .sl (l.map txP)), (5, .sc (.int .i64 (k : Int)))], [], 7, 26⟩) (fun k => k ≤ l.length) (fun k => l.length - k) 7 (fun _ => rfl) 0 (by simp only [LW, Nat.reduceMod, Nat.reduceDiv, Int.natCast_zero, List.length_map, AW, reduceAdd, reduceCtorEq, reduceEqDiff, ↓reduceIte, reduceLT, reduceLeDiff, reduceSub, reducePow, reduceMul, reduceToNat, reduceLE, reduceEq, Int.reduceLT, Int.reduceBEq, Int.reduceBNe]) (Nat.zero_le _) (fun k hk => ?_)
  have gk := hk
  by_cases hltk : k < l.length
  rotate_left
  · have dk : decide ((k : Int) < ((l.length : Nat) : Int)) = false := by rw [decide_eq_false_iff_not]; exact fun h => hltk (Int.ofNat_lt.1 h)
    have ek : k = l.length := Nat.le_antisymm gk (Nat.le_of_not_lt hltk)
    subst ek
    simp only [dk, List.length_map, AW, reduceAdd, reduceCtorEq, reduceEqDiff, ↓reduceIte, reduceLT, reduceLeDiff, reduceSub, reducePow, reduceMul, reduceToNat, reduceLE, reduceEq, Int.reduceLT, Int.reduceBEq, Int.reduceBNe]
  have dk : decide ((k : Int) < ((l.length : Nat) : Int)) = true := by rw [decide_eq_true_eq]; exact Int.ofNat_lt.2 hltk
  have ds : decide (l[k] = l[k]) = true := decide_eq_true rfl
  simp only [dk, map_getD hltk, hltk, txP, bA_beq, List.length_map, ds, AW, reduceAdd, reduceCtorEq, reduceEqDiff, ↓reduceIte, reduceLT, reduceLeDiff, reduceSub, reducePow, reduceMul, reduceToNat, reduceLE, reduceEq, Int.reduceLT, Int.reduceBEq, Int.reduceBNe]
  refine drawnK rfl ?_; (try simp only [wrap_succ hltk hlen, AW, reduceAdd, reduceCtorEq, reduceEqDiff, ↓reduceIte, reduceLT, reduceLeDiff, reduceSub, reducePow, reduceMul, reduceToNat, reduceLE, reduceEq, Int.reduceLT, Int.reduceBEq, Int.reduceBNe])
  refine ⟨k + 1, hltk, ?_, by omega⟩
  simp only [LW, Nat.reduceMod, Nat.reduceDiv, AW, reduceAdd, reduceCtorEq, reduceEqDiff, ↓reduceIte, reduceLT, reduceLeDiff, reduceSub, reducePow, reduceMul, reduceToNat, reduceLE, reduceEq, Int.reduceLT, Int.reduceBEq, Int.reduceBNe]


end Go.Proofs.YtjnfldkcbcfboaaGreatDoor
