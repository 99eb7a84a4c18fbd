/-
  Inspections: the program's last inspection: a loop over an iterator.
-/
import Derived.Test.YthgnbkcopapbmaaIk
import Derived.RangeFuncNested
import Derived.RangeFuncBound
import Derived.RangeFuncCalls
import Derived.RangeFuncLeaves
import Derived.Shelf.Abstract
import Derived.Shelf.RegionOpen
import Derived.WalkKit
import Derived.OwnWalkIn
import Derived.TacticsInMore
import Derived.LoopNIn
import Derived.LoopIn
namespace Go.Proofs.Ythgnbkcopapbmaa
open Go.RowKit
open Nat (reduceAdd reduceEqDiff reduceLT reduceLeDiff reduceSub reducePow reduceMul)
open Int (reduceToNat reduceLE reduceEq)
set_option linter.unusedVariables false
set_option linter.unusedSimpArgs false
set_option linter.unnecessarySimpa false


open Go.Shelf
attribute [local go_sem] Oper.semAt_some
def CKV (c : CheckS) : Value := .agg #[.int .i64 c.bike, .int .i64 c.kind, .int .i64 c.at_, .bool c.good]
theorem w64_succ {j m : Nat} (h : j < m) (hm : m ≤ maxLen) : wrap64 ((j : Int) + 1) = (j : Int) + 1 := by
  have h2 : m ≤ 9223372036854775807 := hm
  unfold wrap64; omega
set_option maxHeartbeats 1000000 in
theorem of29 (F : Fence) (n : Nat) (h5 : F.fn 34) (hro : F.round = none) (a : Option Addr) (len cap : Nat) (b k t : Int) (w : World) :
    CallsIn F n Try.prog 34 #[.slice a len cap, .int .i64 b, .int .i64 k, .int .i64 t] w fun e w' => e = .returned (.func (.func 52) #[] #[.pointer (some ⟨w.heap.size, 0, none⟩), .pointer (some ⟨w.heap.size + 1, 0, none⟩), .pointer (some ⟨w.heap.size + 1 + 1, 0, none⟩), .pointer (some ⟨w.heap.size + 1 + 1 + 1, 0, none⟩)]) ∧ w' = (((w.alloc (.cells #[.slice a len cap] 61)).alloc (.cells #[.int .i64 b] 3)).alloc (.cells #[.int .i64 k] 3)).alloc (.cells #[.int .i64 t] 3) := by
  refine callsIn_of_wp Try.func34 rfl h5 ?_ hro
  simp only [Try.ntmps34, List.size_toArray, List.length_cons, List.length_nil, Nat.reduceAdd, Nat.reduceSub, Array.replicate_succ, Array.replicate_zero, List.push_toArray, List.append_toArray, List.nil_append, List.cons_append]
  gi_wp2
  go_ret
  exact ⟨rfl, rfl⟩
def KpK (n₀ B : Nat) (W W' : World) : Prop := Below n₀ W W' ∧ ∀ i, B ≤ i → i < B + 4 → W'.cell? ⟨i, 0, none⟩ = W.cell? ⟨i, 0, none⟩
theorem KpK.refl (n₀ B : Nat) (W : World) : KpK n₀ B W W := ⟨Below.refl _ _, fun _ _ _ => rfl⟩
theorem KpK.trans {n₀ B : Nat} {W W1 W2 : World} (h : KpK n₀ B W W1) (h2 : KpK n₀ B W1 W2) : KpK n₀ B W W2 := ⟨h.1.trans h2.1, fun i a b => (h2.2 i a b).trans (h.2 i a b)⟩
theorem KpK.alloc {n₀ B : Nat} {W W1 : World} (h : KpK n₀ B W W1) (hn : n₀ ≤ W1.heap.size) (hB : B + 4 ≤ W1.heap.size) (o : Obj) : KpK n₀ B W (W1.alloc o) :=
  ⟨h.1.alloc hn _, fun i a b => (((Below.refl _ W1).alloc (Nat.le_refl _) o).cell (p := ⟨i, 0, none⟩) (show i < W1.heap.size by omega)).trans (h.2 i a b)⟩
def upK (l : List CheckS) (b k t : Int) (i : Nat) : List CheckS := (l.take i).filter (matchB b k t)
set_option maxRecDepth 100000 in
set_option maxHeartbeats 2000000 in
theorem of37 (F : Fence) (n : Nat) (h8 : F.fn 52) (hro : F.round = none) (hn : 1 ≤ n) (l B n₀ s off cap : Nat) (zs : List CheckS) (b k t : Int) (hb : s < n₀) (J Jx : List CheckS → World → Prop) (hJa : ∀ s W o, J s W → J s (W.alloc o))
    (hmx : zs.length ≤ maxLen)
    (hY : ∀ pre x W, J pre W → pre.length < zs.length → YieldAt F (n - 1) Try.prog l #[CKV x] W fun e W' =>
      (e = .returned (.bool true) ∧ J (pre ++ [x]) W' ∧ KpK n₀ B W W') ∨ (e = .returned (.bool false) ∧ Jx (pre ++ [x]) W'))
    (W : World) (hn₀ : n₀ ≤ W.heap.size) (hBs : B + 4 ≤ W.heap.size)
    (c0 : W.cell? ⟨B, 0, none⟩ = some (.slice (some ⟨s, off, none⟩) zs.length cap)) (c1 : W.cell? ⟨B + 1, 0, none⟩ = some (.int .i64 b)) (c2 : W.cell? ⟨B + 1 + 1, 0, none⟩ = some (.int .i64 k)) (c3 : W.cell? ⟨B + 1 + 1 + 1, 0, none⟩ = some (.int .i64 t))
    (hc : ∀ j (h : j < zs.length), W.cell? ⟨s, off + j * 4, none⟩ = some (.int .i64 zs[j].bike) ∧ W.cell? ⟨s, off + j * 4 + 1, none⟩ = some (.int .i64 zs[j].kind) ∧ W.cell? ⟨s, off + j * 4 + 2, none⟩ = some (.int .i64 zs[j].at_) ∧ W.cell? ⟨s, off + j * 4 + 3, none⟩ = some (.bool zs[j].good))
    (h0 : J [] W) :
    CallsIn F n Try.prog 52 #[.func (.yield l) #[] #[], .pointer (some ⟨B, 0, none⟩), .pointer (some ⟨B + 1, 0, none⟩), .pointer (some ⟨B + 1 + 1, 0, none⟩), .pointer (some ⟨B + 1 + 1 + 1, 0, none⟩)] W fun e W' => (∃ v, e = .returned v) ∧
      ((∃ ys, ys = zs.filter (matchB b k t) ∧ J ys W') ∨ (∃ pre, pre <+: zs.filter (matchB b k t) ∧ Jx pre W')) := by
  refine callsIn_of_wp Try.func52 rfl h8 ?_ hro
  simp only [Try.ntmps52, List.size_toArray, List.length_cons, List.length_nil, Nat.reduceAdd, Nat.reduceSub, Array.replicate_succ, Array.replicate_zero, List.push_toArray, List.append_toArray, List.nil_append, List.cons_append]
  gi_wp2
  gi_loopw [10] (fun i wr => ∃ j : Nat, j ≤ zs.length ∧ i = .int .i64 j ∧ J (upK zs b k t j) wr ∧ KpK n₀ B W wr)
    (fun i _ => zs.length - (intOf i).toNat)
  case atStart => exact ⟨0, Nat.zero_le _, rfl, h0, KpK.refl _ _ _⟩
  case round =>
    obtain ⟨j, hj, rfl, hJs, hnx⟩ := hrel
    by_cases hlt : j < zs.length
    · obtain ⟨d0, d1, d2, d3⟩ := hc j hlt
      have d0 := (hnx.1.cell (p := ⟨s, off + j * 4, none⟩) hb).trans d0
      have d1 := (hnx.1.cell (p := ⟨s, off + j * 4 + 1, none⟩) hb).trans d1
      have d2 := (hnx.1.cell (p := ⟨s, off + j * 4 + 2, none⟩) hb).trans d2
      have d3 := (hnx.1.cell (p := ⟨s, off + j * 4 + 3, none⟩) hb).trans d3
      have e1 := (hnx.2 (B + 1) (by omega) (by omega)).trans c1
      have e2 := (hnx.2 (B + 1 + 1) (by omega) (by omega)).trans c2
      have e3 := (hnx.2 (B + 1 + 1 + 1) (by omega) (by omega)).trans c3
      have hsz := hnx.1.size
      have q1 : B + 1 < wr.heap.size := by omega
      have q2 : B + 1 + 1 < wr.heap.size := by omega
      have q3 : B + 1 + 1 + 1 < wr.heap.size := by omega
      have hw : wrap64 ((j : Int) + 1) = (j : Int) + 1 := w64_succ hlt hmx
      have hup : upK zs b k t (j + 1) = upK zs b k t j ++ (if matchB b k t zs[j] = true then [zs[j]] else []) := by
        unfold upK; rw [List.take_succ_eq_append_getElem hlt, List.filter_append]; congr 1; cases hm : matchB b k t zs[j] <;> simp [hm]
      have hno : ¬ (zs[j].bike = b ∧ zs[j].kind = k ∧ zs[j].at_ ≤ t) → upK zs b k t (j + 1) = upK zs b k t j := fun h => by
        rw [hup, if_neg (by simp only [matchB, Bool.and_eq_true, beq_iff_eq, decide_eq_true_eq]; exact h), List.append_nil]
      by_cases h1 : zs[j].bike = b
      · by_cases h2 : zs[j].kind = k
        · by_cases h3 : zs[j].at_ ≤ t
          · have hyes : upK zs b k t (j + 1) = upK zs b k t j ++ [zs[j]] := by rw [hup, if_pos (by simp only [matchB, Bool.and_eq_true, beq_iff_eq, decide_eq_true_eq]; exact ⟨h1, h2, h3⟩)]
            have hln : (upK zs b k t j).length < zs.length := Nat.lt_of_le_of_lt (Nat.le_trans (List.length_filter_le _ _) (List.length_take_le _ _)) hlt
            obtain ⟨fn, tmps, assign, body, hy, hR⟩ := hY _ zs[j] _ (hJa _ _ (.cells #[.int .i64 zs[j].bike, .int .i64 zs[j].kind, .int .i64 zs[j].at_, .bool zs[j].good] 65) hJs) hln
            unfold CKV at hy
            rw [h1, h2] at hy hR
            gi_wp2
            refine hR.mono ?_
            rintro e W3 (⟨rfl, hJ3, hk3⟩ | ⟨rfl, hJx3⟩)
            · gi_wp2
              go_roundw
              case rel => exact ⟨j + 1, by omega, by simp [hw], by rw [hyes]; exact hJ3, (hnx.alloc (by omega) (by omega) _).trans hk3⟩
              case measure => generalize wrap64 ((j : Int) + 1) = v at hw ⊢; subst hw; simp [intOf]; exact meas_lt hlt
            · gi_wp2
              refine bodyPost_ret (results_none rfl _ _ _) rfl ?_
              exact ⟨⟨_, rfl⟩, .inr ⟨_, by rw [← hyes]; exact (List.take_prefix _ _).filter _, hJx3⟩⟩
          · have hn' := hno (fun h => h3 h.2.2)
            gi_wp2
            refine ⟨fun _ h => (by cases h), ?_⟩
            gi_wp2
            go_roundw
            case rel => exact ⟨j + 1, by omega, by simp [hw], by rw [hn']; exact hJa _ _ _ hJs, hnx.alloc (by omega) (by omega) _⟩
            case measure => generalize wrap64 ((j : Int) + 1) = v at hw ⊢; subst hw; simp [intOf]; exact meas_lt hlt
        · have hn' := hno (fun h => h2 h.2.1)
          gi_wp2
          refine ⟨fun _ h => (by cases h), ?_⟩
          gi_wp2
          go_roundw
          case rel => exact ⟨j + 1, by omega, by simp [hw], by rw [hn']; exact hJa _ _ _ hJs, hnx.alloc (by omega) (by omega) _⟩
          case measure => generalize wrap64 ((j : Int) + 1) = v at hw ⊢; subst hw; simp [intOf]; exact meas_lt hlt
      · have hn' := hno (fun h => h1 h.1)
        gi_wp2
        refine ⟨fun _ h => (by cases h), ?_⟩
        gi_wp2
        go_roundw
        case rel => exact ⟨j + 1, by omega, by simp [hw], by rw [hn']; exact hJa _ _ _ hJs, hnx.alloc (by omega) (by omega) _⟩
        case measure => generalize wrap64 ((j : Int) + 1) = v at hw ⊢; subst hw; simp [intOf]; exact meas_lt hlt
    · obtain rfl : j = zs.length := by omega
      gi_wp2
      go_end0
      exact ⟨⟨_, rfl⟩, .inl ⟨_, rfl, by simpa [upK] using hJs⟩⟩


end Go.Proofs.Ythgnbkcopapbmaa
