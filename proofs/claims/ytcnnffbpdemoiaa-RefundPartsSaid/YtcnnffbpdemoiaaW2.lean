import Derived.Test.YtcnnffbpdemoiaaW1
namespace Go.Proofs.Ytcnnffbpdemoiaa
open Go.RowKit
set_option linter.unusedVariables false

theorem take_snoc {α} (l : List α) (k : Nat) (h : k < l.length) : l.take (k + 1) = l.take k ++ [l[k]] := List.take_succ_eq_append_getElem h

def sumI (l : List RefS) (r i : Int) : Int := l.foldl (fun s x => if x.ride == r && x.item == i then wrap64 (s + x.amount) else s) 0
def sumR (l : List RefS) (r : Int) : Int := l.foldl (fun s x => if x.ride == r then wrap64 (s + x.amount) else s) 0
theorem sumI_snoc (l : List RefS) (x : RefS) (r i : Int) : sumI (l ++ [x]) r i = if x.ride == r && x.item == i then wrap64 (sumI l r i + x.amount) else sumI l r i := by simp [sumI]
theorem sumR_snoc (l : List RefS) (x : RefS) (r : Int) : sumR (l ++ [x]) r = if x.ride == r then wrap64 (sumR l r + x.amount) else sumR l r := by simp [sumR]

set_option maxHeartbeats 800000 in
theorem spent_c (a : Option Addr) (cap : Nat) (l : List RefS) (ride item : Int) (w : World) (H : RefS.sl w a cap l) :
    Calls Try.prog 28 #[.slice a l.length cap, .int .i64 ride, .int .i64 item] w (fun e w' => e = .returned (.tuple #[.int .i64 (sumI l ride item), .int .i64 (sumR l ride)]) ∧ w = w') := by
  obtain ⟨hl1, hl2, -, hfs, -⟩ := H
  have hlen := Nat.le_trans hl1 hl2
  unfold maxLen at hlen
  clear hl1 hl2
  go_enter Try.func28, Try.ntmps28
  go_wp2
  go_loop [8, 9, 10] (fun s t i => ∃ k : Nat, k ≤ l.length ∧ i = .int .i64 k ∧ s = .int .i64 (sumI (l.take k) ride item) ∧ t = .int .i64 (sumR (l.take k) ride)) (fun _ _ i => l.length - (intOf i).toNat)
  case atStart => exact ⟨0, Nat.zero_le _, rfl, rfl, rfl⟩
  case round =>
    obtain ⟨k, hk, rfl, rfl, rfl⟩ := hrel
    by_cases hlt : k < l.length
    · obtain ⟨b, o, rfl, hbw, hf⟩ := hfs (by omega)
      obtain ⟨h0, h1, h2, h3⟩ := hf k hlt
      have e1 := take_snoc l k hlt
      generalize hfk : l[k] = f at *
      have E1 := hide e1; clear e1
      have H2 := hide hf; clear hf
      have H3 := hide hfk; clear hfk
      cases hr : (f.ride == ride)
      · go_wp2
        go_round
        case rel => exact ⟨k+1, by omega, by go_num, by rw [E1.out, sumI_snoc]; simp [hr], by rw [E1.out, sumR_snoc]; simp [hr]⟩
        case measure => simp [intOf]; omega
      · cases hi : (f.item == item)
        · go_wp2
          go_round
          case rel => exact ⟨k+1, by omega, by go_num, by rw [E1.out, sumI_snoc]; simp [hr, hi], by rw [E1.out, sumR_snoc]; simp [hr]⟩
          case measure => simp [intOf]; omega
        · go_wp2
          go_round
          case rel => exact ⟨k+1, by omega, by go_num, by rw [E1.out, sumI_snoc]; simp [hr, hi], by rw [E1.out, sumR_snoc]; simp [hr]⟩
          case measure => simp [intOf]; omega
    · obtain rfl : k = l.length := by omega
      go_wp2
      go_ret2
      exact ⟨rfl, rfl⟩

set_option maxHeartbeats 800000 in
theorem found_c (a : Option Addr) (cap : Nat) (fs : List FareS) (ride : Int) (w : World) (H : FareS.sl w a cap fs) :
    Calls Try.prog 27 #[.slice a fs.length cap, .int .i64 ride] w (Ret w (findV (findL fs ride))) := by
  obtain ⟨hl1, hl2, -, hfs, -⟩ := H
  have hlen := Nat.le_trans hl1 hl2
  unfold maxLen at hlen
  clear hl1 hl2
  go_enter Try.func27, Try.ntmps27
  go_wp2
  go_loop [6] (fun i => ∃ k : Nat, k ≤ fs.length ∧ i = .int .i64 k ∧ Hid (∀ j (h : j < fs.length), j < k → (fs[j].ride == ride) = false)) (fun i => fs.length - (intOf i).toNat)
  case atStart => exact ⟨0, Nat.zero_le _, rfl, fun _ _ h => absurd h (Nat.not_lt_zero _)⟩
  case round =>
    obtain ⟨k, hk, rfl, hno⟩ := hrel
    by_cases hlt : k < fs.length
    · obtain ⟨b, o, rfl, hbw, hf⟩ := hfs (by omega)
      obtain ⟨h0, h1, h2, h3⟩ := hf k hlt
      generalize hfk : fs[k] = f at *
      have H2 := hide hf; clear hf
      have H3 := hide hfk; clear hfk
      cases hr : (f.ride == ride)
      · go_wp2
        go_round
        case rel => 
          refine ⟨k+1, by omega, by go_num, ?_⟩
          intro j h hj
          by_cases e : j = k
          · subst e; have := H3.out; simp only [this]; exact hr
          · exact hno j h (by omega)
        case measure => simp [intOf]; omega
      · have HR := hide hr
        go_wp2
        refine bodyPost_ret (v := findV (some f)) (by simp [results, Try.results27, go_sem, findV]) rfl ?_
        have := find_some (fun f => f.ride == ride) fs k hlt hno.out (by have := H3.out; simp only [this]; exact HR.out)
        refine ⟨by rw [findL, this]; simp only [H3.out], ?_⟩
        repeat (first | with_reducible exact Below.refl _ _ | with_reducible refine Below.setCell ?_ ?_ _ | with_reducible refine Below.alloc ?_ ?_ _ | omega | (simp <;> omega))
    · obtain rfl : k = fs.length := by omega
      go_wp2
      refine bodyPost_ret (v := findV none) (by simp [results, Try.results27, go_sem, findV]) rfl ?_
      have := find_none (fun f => f.ride == ride) fs (fun j hj => hno.out j hj hj)
      refine ⟨by rw [findL, this], ?_⟩
      repeat (first | with_reducible exact Below.refl _ _ | with_reducible refine Below.setCell ?_ ?_ _ | with_reducible refine Below.alloc ?_ ?_ _ | omega | (simp <;> omega))

def fewL (fs : List FareS) : Bool := fs.all (fun f => decide (f.items.length ≤ 20)) && decide (fs.length ≤ 40)
theorem all_false {α} (p : α → Bool) (l : List α) (k : Nat) (h : k < l.length) (hk : p l[k] = false) : l.all p = false := by
  rw [List.all_eq_false]; exact ⟨_, List.getElem_mem h, by simp [hk]⟩
theorem all_true {α} (p : α → Bool) (l : List α) (h : ∀ j (hj : j < l.length), p l[j] = true) : l.all p = true := by
  rw [List.all_eq_true]; intro x hx; obtain ⟨j, hj, rfl⟩ := List.getElem_of_mem hx; exact h j hj

set_option maxHeartbeats 800000 in
theorem few_c (a : Option Addr) (cap : Nat) (fs : List FareS) (w : World) (H : FareS.sl w a cap fs) :
    Calls Try.prog 10 #[.slice a fs.length cap] w (fun e w' => e = .returned (.bool (fewL fs)) ∧ w = w') := by
  obtain ⟨hl1, hl2, -, hfs, -⟩ := H
  have hlen := Nat.le_trans hl1 hl2
  unfold maxLen at hlen
  clear hl1 hl2
  go_enter Try.func10, Try.ntmps10
  go_wp2
  go_loop [3] (fun i => ∃ k : Nat, k ≤ fs.length ∧ i = .int .i64 k ∧ Hid (∀ j (h : j < fs.length), j < k → decide (fs[j].items.length ≤ 20) = true)) (fun i => fs.length - (intOf i).toNat)
  case atStart => exact ⟨0, Nat.zero_le _, rfl, fun _ _ h => absurd h (Nat.not_lt_zero _)⟩
  case round =>
    obtain ⟨k, hk, rfl, hno⟩ := hrel
    by_cases hlt : k < fs.length
    · obtain ⟨b, o, rfl, hbw, hf⟩ := hfs (by omega)
      obtain ⟨h0, h1, h2, h3⟩ := hf k hlt
      have hall := all_false (fun f => decide (f.items.length ≤ 20)) fs k hlt
      generalize hfk : fs[k] = f at *
      have HA := hide hall; clear hall
      have H2 := hide hf; clear hf
      have H3 := hide hfk; clear hfk
      by_cases hr : 20 < f.items.length
      · have hr' : (20 : Int) < (f.items.length : Int) := by omega
        go_wp2
        go_ret
        exact ⟨by rw [fewL, HA.out (by simp; omega)]; rfl, rfl⟩
      · have hr' : (f.items.length : Int) ≤ 20 := by omega
        go_wp2
        go_round
        case rel => 
          refine ⟨k+1, by omega, by go_num, ?_⟩
          intro j h hj
          by_cases e : j = k
          · subst e; have := H3.out; simp only [this]; simp; omega
          · exact hno j h (by omega)
        case measure => simp [intOf]; omega
    · obtain rfl : k = fs.length := by omega
      have hall := all_true (fun f => decide (f.items.length ≤ 20)) fs (fun j hj => hno.out j hj hj)
      have HA := hide hall; clear hall
      go_wp2
      go_ret
      refine ⟨?_, rfl⟩
      rw [fewL, HA.out]
      by_cases h40 : fs.length ≤ 40
      · simp [h40]; omega
      · simp [h40]; omega
end Go.Proofs.Ytcnnffbpdemoiaa
