import Derived.Test.YtcnnffbpdemoiaaW8
namespace Go.Proofs.Ytcnnffbpdemoiaa
open Go.RowKit
set_option linter.unusedVariables false

def FA (A : Option Addr) (c : Nat) : FareS := ⟨7, 0, A, c, [⟨0, 0, 100⟩, ⟨0, 0, 200⟩, ⟨0, 0, -50⟩], 250⟩
theorem i64_lit (n : Int) (h : -9223372036854775808 ≤ n ∧ n ≤ 9223372036854775807) : I64 n := h
set_option maxHeartbeats 800000 in
theorem fares_c (w : World) : Calls Try.prog 22 #[] w (fun e w' => ∃ b b' c, e = .returned (.slice (some ⟨b, 0, none⟩) 1 1) ∧ Below w.heap.size w w' ∧ FareS.sl w' (some ⟨b, 0, none⟩) 1 [FA (some ⟨b', 0, none⟩) c]) := by
  go_enter Try.func22, Try.ntmps22
  go_wp2
  go_ret
  refine ⟨w.heap.size + 1, w.heap.size, 3, rfl, ?_, ?_⟩
  · repeat (first | with_reducible exact Below.refl _ _ | with_reducible refine Below.setCell ?_ ?_ _ | with_reducible refine Below.alloc ?_ ?_ _ | omega | (simp <;> omega))
  · refine ⟨Nat.le_refl _, by unfold maxLen; simp, by simp, fun _ => ⟨_, 0, rfl, by simp, ?_⟩, ?_⟩
    · intro i hi
      obtain rfl : i = 0 := by simp at hi; omega
      simp [FareS.at, FA]
    · intro x hx
      simp at hx; subst hx
      refine ⟨i64_lit _ (by simp [FA]), i64_lit _ (by simp [FA]), ?_, i64_lit _ (by simp [FA])⟩
      refine ⟨by simp [FA], (by show 3 ≤ maxLen; unfold maxLen; omega), (fun e => by cases e), fun _ => ⟨_, 0, rfl, (by show w.heap.size < _; simp <;> omega), ?_⟩, ?_⟩
      · intro i hi
        have h3 : i = 0 ∨ i = 1 ∨ i = 2 := by simp [FA] at hi; omega
        rcases h3 with rfl | rfl | rfl <;> simp [ItemS.at, FA]
      · intro x hx
        simp [FA] at hx
        rcases hx with rfl | rfl | rfl <;> exact ⟨i64_lit _ (by simp), i64_lit _ (by simp), i64_lit _ (by simp)⟩

def firstIdx (fs : List FareS) (ride : Int) : Int := match fs.findIdx? (fun f => f.ride == ride) with
  | some k => k
  | none => -1

set_option maxHeartbeats 800000 in
theorem first_c (a : Option Addr) (cap : Nat) (fs : List FareS) (ride : Int) (w : World) (H : FareS.sl w a cap fs) :
    Calls Try.prog 21 #[.slice a fs.length cap, .int .i64 ride] w (fun e w' => e = .returned (.int .i64 (firstIdx fs ride)) ∧ w = w') := by
  obtain ⟨hl1, hl2, -, hfs, -⟩ := H
  have hlen := Nat.le_trans hl1 hl2
  unfold maxLen at hlen
  clear hl1 hl2
  go_enter Try.func21, Try.ntmps21
  go_wp2
  go_loop [5] (fun i => ∃ k : Nat, k ≤ fs.length ∧ i = .int .i64 k ∧ Hid (∀ j (h : j < fs.length), j < k → (fs[j].ride == ride) = false)) (fun i => fs.length - (intOf i).toNat)
  case atStart => exact ⟨0, Nat.zero_le _, rfl, fun _ _ h => absurd h (Nat.not_lt_zero _)⟩
  case round =>
    obtain ⟨k, hk, rfl, hno⟩ := hrel
    by_cases hlt : k < fs.length
    · obtain ⟨b, o, rfl, hbw, hf⟩ := hfs (by omega)
      obtain ⟨h0, h1, h2, h3⟩ := hf k hlt
      generalize hfk : fs[k] = f at *
      have H2 := hide hf; clear hf
      have H3 := hide hfk; clear hfk
      cases hr : (f.ride == ride)
      · go_wp2
        go_round
        case rel =>
          refine ⟨k+1, by omega, by go_num, ?_⟩
          intro j h hj
          by_cases e : j = k
          · subst e; have := H3.out; simp only [this]; exact hr
          · exact hno j h (by omega)
        case measure => simp [intOf]; omega
      · have HR := hide hr
        have hV := hide (show firstIdx fs ride = k by
          have : fs.findIdx? (fun f => f.ride == ride) = some k := by
            rw [List.findIdx?_eq_some_iff_getElem]
            exact ⟨hlt, by have := H3.out; simp only [this]; exact hr, fun j hj => by simp only [hno.out j (by omega) hj]; simp⟩
          simp only [firstIdx, this])
        go_wp2
        go_ret
        exact ⟨by rw [hV.out]; rfl, rfl⟩
    · obtain rfl : k = fs.length := by omega
      have hV := hide (show firstIdx fs ride = -1 by
        have : fs.findIdx? (fun f => f.ride == ride) = none := by
          rw [List.findIdx?_eq_none_iff]
          intro x hx
          obtain ⟨j, hj, rfl⟩ := List.getElem_of_mem hx
          exact hno.out j hj hj
        simp only [firstIdx, this])
      go_wp2
      go_ret
      exact ⟨by rw [hV.out]; rfl, rfl⟩

set_option maxHeartbeats 800000 in
theorem same_c (a a' : Option Addr) (cap cap' : Nat) (l : List RefS) (w : World) (H : RefS.sl w a cap l) (H' : RefS.sl w a' cap' l) :
    Calls Try.prog 16 #[.slice a l.length cap, .slice a' l.length cap'] w (fun e w' => e = .returned (.bool true) ∧ Below w.heap.size w w') := by
  obtain ⟨hl1, hl2, -, hfs, -⟩ := H
  obtain ⟨-, -, -, hfs', -⟩ := H'
  have hlen := Nat.le_trans hl1 hl2
  unfold maxLen at hlen
  clear hl1 hl2
  go_enter Try.func16, Try.ntmps16
  go_wp2
  go_loopw [5] (fun i wr => ∃ k : Nat, k ≤ l.length ∧ i = .int .i64 k ∧ Hid (Below w.heap.size w wr)) (fun i wr => l.length - (intOf i).toNat)
  case atStart => exact ⟨0, Nat.zero_le _, rfl, Below.refl _ _⟩
  case round =>
    obtain ⟨k, hk, rfl, hb⟩ := hrel
    obtain ⟨hc, hz⟩ := bcell hb.out
    by_cases hlt : k < l.length
    · obtain ⟨b, o, rfl, hbw, hf⟩ := hfs (by omega)
      obtain ⟨b', o', rfl, hbw', hf'⟩ := hfs' (by omega)
      obtain ⟨h0, h1, h2, h3⟩ := hf k hlt
      obtain ⟨g0, g1, g2, g3⟩ := hf' k hlt
      generalize hfk : l[k] = f at *
      have H2 := hide hf; clear hf
      have H2' := hide hf'; clear hf'
      have H3 := hide hfk; clear hfk
      have hkl : (k : Int) < (l.length : Int) := by omega
      go_wp2
      go_quiet (fail)
      go_wp2
      go_roundw
      case rel => exact ⟨k+1, by omega, by go_num, below_drewN hb.out _⟩
      case measure => simp [intOf]; omega
    · obtain rfl : k = l.length := by omega
      go_wp2
      go_ret
      exact ⟨rfl, hb.out⟩

theorem sl_nil (w : World) : RefS.sl w none 0 [] := ⟨Nat.le_refl _, Nat.zero_le _, fun _ => rfl, fun h => absurd h (Nat.lt_irrefl 0), fun x hx => by cases hx⟩
theorem sl_one {w : World} {b : Nat} {r : RefS} (hb : b < w.heap.size) (h : RefS.at w b 0 r) (hr : RefS.ok w r) : RefS.sl w (some ⟨b, 0, none⟩) 1 [r] := by
  refine ⟨Nat.le_refl _, by unfold maxLen; omega, fun e => (by cases e), fun _ => ⟨b, 0, rfl, hb, ?_⟩, ?_⟩
  · intro i hi
    obtain rfl : i = 0 := by simp at hi; omega
    simpa using h
  · intro x hx; simp at hx; subst hx; exact hr
theorem val1 (A : Option Addr) (c : Nat) : addL [FA A c] [] ⟨1, 7, 1, 200⟩ = 0 := by kernel_rfl
theorem val2 (A : Option Addr) (c : Nat) : leftL [FA A c] [⟨1, 7, 1, 200⟩] 7 0 = (50, 0) := by kernel_rfl
theorem val3 (A : Option Addr) (c : Nat) : netL [FA A c] [⟨1, 7, 1, 200⟩] 7 = (50, 0) := by kernel_rfl
theorem val4 (A : Option Addr) (c : Nat) : addL [FA A c] [⟨1, 7, 1, 200⟩] ⟨2, 7, 0, 50⟩ = 0 := by kernel_rfl
theorem val5 (A : Option Addr) (c : Nat) : addL [FA A c] [⟨1, 7, 1, 200⟩] ⟨2, 7, 0, 51⟩ = 27 := by kernel_rfl
theorem val6 (A : Option Addr) (c : Nat) : checkL [FA A c] [⟨1, 7, 2, 1⟩] = 27 := by kernel_rfl
theorem val7 (A : Option Addr) (c : Nat) : checkL [FA A c] [⟨1, 8, 0, 1⟩] = 7 := by kernel_rfl
end Go.Proofs.Ytcnnffbpdemoiaa
