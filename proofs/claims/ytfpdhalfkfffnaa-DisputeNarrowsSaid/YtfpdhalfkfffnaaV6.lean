import Derived.Test.YtfpdhalfkfffnaaV5
namespace Go.Proofs.Ytfpdhalfkfffnaa
open Go.RowKit
set_option linter.unusedVariables false
set_option linter.unusedSimpArgs false
set_option linter.unnecessarySimpa false

set_option maxRecDepth 100000 in
set_option maxHeartbeats 1600000 in
theorem agree_c (a : Option Addr) (cap : Nat) (l : List EvS) (w : World) (H : EvS.sl w a cap l) : Calls Try.prog 19 #[.slice a l.length cap] w (Ret w (.bool (agreeL l))) := by
  obtain ⟨h1, h2, -, hL, -⟩ := H
  have hlen := Nat.le_trans h1 h2
  unfold maxLen at hlen
  clear h1 h2
  go_enter Try.func19, Try.ntmps19
  go_wp2_with fail
  go_loopw [9] (fun i wr => ∃ k : Nat, k ≤ l.length ∧ i = .int .i64 k ∧ Below w.heap.size w wr ∧ w.heap.size < wr.heap.size ∧ wr.cell? ⟨w.heap.size, 0, none⟩ = some (.int .i64 (foldS (l.take k)).lo) ∧ wr.cell? ⟨w.heap.size, 1, none⟩ = some (.int .i64 (foldS (l.take k)).hi) ∧ wr.frozen? ⟨w.heap.size, 0, none⟩ = false ∧ wr.frozen? ⟨w.heap.size, 1, none⟩ = false) (fun i wr => l.length - (intOf i).toNat)
  case atStart =>
    refine ⟨0, Nat.zero_le _, rfl, ?_, ?_, ?_, ?_, ?_, ?_⟩
    · repeat (first | with_reducible exact (Below.refl _ _) | with_reducible refine Below.setCell ?_ ?_ _ | with_reducible refine Below.alloc ?_ ?_ _ | with_reducible refine Below.drew ?_ | with_reducible refine below_drewN ?_ _ | omega | (simp <;> omega))
    all_goals (simp [foldS])
  case round =>
    obtain ⟨k, hk, rfl, hb, hs, c0, c1, z0, z1⟩ := hrel
    obtain ⟨hd, hy⟩ := bcell hb
    have HB := hide hb; clear hb
    by_cases hlt : k < l.length
    · obtain ⟨ab, ao, ae, abw, af⟩ := hL (by omega)
      obtain ⟨f0, f1, f2⟩ := af k hlt
      have HS := hide (foldS_succ l k hlt)
      generalize hx : l[k] = x at *
      generalize hp : foldS (l.take k) = p at *
      have HX := hide hx; have HP := hide hp; clear hx hp af
      have ab2 : ab < wr.heap.size := by have := HB.out.size; omega
      go_wp2_with fail
      refine (common_c _ _ _).mono ?_
      rintro e w1 ⟨rfl, hb⟩
      obtain ⟨hc1, hz1⟩ := bcell hb
      have hs1 := hb.size
      try simp at hs1
      have hqw_1 : w.heap.size < w1.heap.size := by omega
      have HW1 : Hid (Below w.heap.size w w1) := (show Below w.heap.size w _ by repeat (first | with_reducible exact (HB.out) | with_reducible refine Below.setCell ?_ ?_ _ | with_reducible refine Below.alloc ?_ ?_ _ | with_reducible refine Below.drew ?_ | with_reducible refine below_drewN ?_ _ | omega | (simp <;> omega))).trans (hb.mono (by first | omega | (simp <;> omega)))
      clear hb
      obtain ⟨he1, hef1⟩ := bcell HW1.out
      have k0 := hc1 w.heap.size 0 (by first | omega | (simp <;> omega))
      have k1 := hc1 w.heap.size 1 (by first | omega | (simp <;> omega))
      have k2 := hz1 w.heap.size 0 (by first | omega | (simp <;> omega))
      have k3 := hz1 w.heap.size 1 (by first | omega | (simp <;> omega))
      go_wp2
      try rw [ae]
      go_roundw
      case rel =>
        refine ⟨k+1, by omega, by go_num, ?_, ?_, ?_, ?_, ?_, ?_⟩
        · repeat (first | with_reducible exact (HW1.out) | with_reducible refine Below.setCell ?_ ?_ _ | with_reducible refine Below.alloc ?_ ?_ _ | with_reducible refine Below.drew ?_ | with_reducible refine below_drewN ?_ _ | omega | (simp <;> omega))
        all_goals (try rw [HS.out])
        all_goals (go_simp)
      case measure => simp [intOf]; omega
    · have hk2 : l.take k = l := by rw [List.take_of_length_le]; omega
      rw [hk2] at c0 c1
      have hV := hide (show agreeL l = decide ((foldS l).lo ≤ (foldS l).hi) from rfl)
      go_wp2
      go_ret
      exact ⟨by rw [hV.out]; rfl, by repeat (first | with_reducible exact (HB.out) | with_reducible refine Below.setCell ?_ ?_ _ | with_reducible refine Below.alloc ?_ ?_ _ | with_reducible refine Below.drew ?_ | with_reducible refine below_drewN ?_ _ | omega | (simp <;> omega))⟩
set_option maxRecDepth 100000 in
set_option maxHeartbeats 1600000 in
theorem qagree_c (a : Option Addr) (cap : Nat) (l : List EvS) (w : World) (H : EvS.sl w a cap l) : Calls Try.prog 20 #[.slice a l.length cap] w (Ret w (.bool (agreeL l))) := by
  obtain ⟨h1, h2, -, hL, -⟩ := H
  have hlen := Nat.le_trans h1 h2
  unfold maxLen at hlen
  clear h1 h2
  go_enter Try.func20, Try.ntmps20
  go_wp2_with fail
  go_loopw [5, 3, 4] (fun i lo hi wr => ∃ k : Nat, k ≤ l.length ∧ i = .int .i64 k ∧ Below w.heap.size w wr ∧ lo = .int .i64 (foldS (l.take k)).lo ∧ hi = .int .i64 (foldS (l.take k)).hi) (fun i lo hi wr => l.length - (intOf i).toNat)
  case atStart => exact ⟨0, Nat.zero_le _, rfl, Below.refl _ _, rfl, rfl⟩
  case round =>
    obtain ⟨k, hk, rfl, hb, rfl, rfl⟩ := hrel
    obtain ⟨hd, hy⟩ := bcell hb
    have HB := hide hb; clear hb
    by_cases hlt : k < l.length
    · obtain ⟨ab, ao, ae, abw, af⟩ := hL (by omega)
      obtain ⟨f0, f1, f2⟩ := af k hlt
      have HS := hide (foldS_succ l k hlt)
      generalize hx : l[k] = x at *
      generalize hp : foldS (l.take k) = p at *
      have HX := hide hx; have HP := hide hp; clear hx hp af
      go_wp2
      go_region
      all_goals
        go_wp2
        try rw [ae]
        go_roundw
        case rel =>
          refine ⟨k+1, by omega, by go_num, ?_, ?_, ?_⟩
          · repeat (first | with_reducible exact (HB.out) | with_reducible refine Below.setCell ?_ ?_ _ | with_reducible refine Below.alloc ?_ ?_ _ | with_reducible refine Below.drew ?_ | with_reducible refine below_drewN ?_ _ | omega | (simp <;> omega))
          all_goals (rw [HS.out]; simp only [commonL]; congr 1; split <;> omega)
        case measure => simp [intOf]; omega
    · have hk2 : l.take k = l := by rw [List.take_of_length_le]; omega
      rw [hk2]
      have hV := hide (show agreeL l = decide ((foldS l).lo ≤ (foldS l).hi) from rfl)
      go_wp2
      go_ret
      exact ⟨by rw [hV.out]; rfl, by repeat (first | with_reducible exact (HB.out) | with_reducible refine Below.setCell ?_ ?_ _ | with_reducible refine Below.alloc ?_ ?_ _ | with_reducible refine Below.drew ?_ | with_reducible refine below_drewN ?_ _ | omega | (simp <;> omega))⟩


end Go.Proofs.Ytfpdhalfkfffnaa
