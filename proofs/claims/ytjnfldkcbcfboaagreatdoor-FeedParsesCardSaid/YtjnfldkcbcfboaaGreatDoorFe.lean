/-
  Parse: the deferred function's contracts.
-/
import Derived.Test.YtjnfldkcbcfboaaGreatDoorFd
import Derived.Recover
import Derived.Defers
import Derived.Laws.Pointers
namespace Go.Proofs.YtjnfldkcbcfboaaGreatDoor
open Go.RowKit
open Nat (reduceAdd reduceEqDiff reduceLT reduceLeDiff reduceSub reducePow reduceMul)
open Int (reduceToNat reduceLE reduceEq)
set_option linter.unusedVariables false
set_option linter.unusedSimpArgs false
set_option linter.unnecessarySimpa false


def malV : Value := .iface 49 (.agg #[])
set_option maxRecDepth 100000 in
set_option maxHeartbeats 4000000 in
theorem catch_idle (p q : Addr) (w : World) : CallsD Tryz.prog 12 #[.pointer (some p), .pointer (some q)] .returning w fun e u' w' => e = .returned (.tuple #[]) ∧ u' = .returning ∧ w' = w := by
  refine callsD_of_wpS Tryz.func12 rfl fun c₀ cs hu => ?_
  apply wpS_seq
  apply wpS_region
  simp [wpOpsS, go_sem, recoverD, hu, Tryz.ntmps12, Exit.thenS]
  refine wpS_of_wp ?_
  change Code.wp _ _ _ { tmps := #[.pointer (some p), .pointer (some q), .nilIface, undef, undef, .nilIface, undef, undef, undef, undef, undef, undef, undef, undef, undef, undef, undef], defers := [] } _
  have hc : { c₀ with mode := .returning } = c₀ := by cases c₀; simp_all
  go_wp2
  exact ⟨rfl, .returning, by rw [hc], .tuple #[], by simp [results, Tryz.results12], rfl, rfl, rfl⟩
set_option maxRecDepth 100000 in
set_option maxHeartbeats 4000000 in
theorem catch_panic (b c : Nat) (w : World) (x0 x1 x2 x3 x4 x5 x6 x7 x8 x9 y : Value) (tb tc : TypeId) (hb : w.heap[b]? = some (.cells #[x0, x1, x2, x3, x4, x5, x6, x7, x8, x9] tb (0, 0))) (hc : w.heap[c]? = some (.cells #[y] tc (0, 0))) (hbc : b ≠ c) :
    CallsD Tryz.prog 12 #[.pointer (some ⟨b, 0, none⟩), .pointer (some ⟨c, 0, none⟩)] (.panicking mal) w fun e u' w' => e = .returned (.tuple #[]) ∧ u' = .panicking [{ v := malV, recovered := true }] ∧ (∀ B, B ≤ b → B ≤ c → B ≤ w.heap.size → Below B w w') ∧ w'.cell? ⟨b, 0, none⟩ = some (.int .i64 0) ∧ w'.cell? ⟨b, 1, none⟩ = some (.int .i64 0) ∧ w'.cell? ⟨b, 2, none⟩ = some (.int .i64 0) ∧ w'.cell? ⟨b, 3, none⟩ = some (.int .i64 0) ∧ w'.cell? ⟨b, 4, none⟩ = some (.int .i64 0) ∧ w'.cell? ⟨b, 5, none⟩ = some (.slice none 0 0) ∧ w'.cell? ⟨b, 6, none⟩ = some (.slice none 0 0) ∧ w'.cell? ⟨b, 7, none⟩ = some (.slice none 0 0) ∧ w'.cell? ⟨b, 8, none⟩ = some (.slice none 0 0) ∧ w'.cell? ⟨b, 9, none⟩ = some (.slice none 0 0) ∧ w'.cell? ⟨c, 0, none⟩ = some (.int .i64 3) := by
  refine callsD_of_wpS Tryz.func12 rfl fun c₀ cs hu => ?_
  unfold mal at hu
  have hta : ∀ w : World, (Instr.typeAssert (.iface 49 (.agg #[])) 20 49 true).run Tryz.prog w = .ok (.tuple #[.agg #[], .bool true]) w := fun w => by rfl
  have c0 : w.cell? ⟨b, 0, none⟩ = some x0 := by rw [cell_of_row w b 0 _ tb _ hb]; rfl
  have c1 : w.cell? ⟨b, 1, none⟩ = some x1 := by rw [cell_of_row w b 1 _ tb _ hb]; rfl
  have c2 : w.cell? ⟨b, 2, none⟩ = some x2 := by rw [cell_of_row w b 2 _ tb _ hb]; rfl
  have c3 : w.cell? ⟨b, 3, none⟩ = some x3 := by rw [cell_of_row w b 3 _ tb _ hb]; rfl
  have c4 : w.cell? ⟨b, 4, none⟩ = some x4 := by rw [cell_of_row w b 4 _ tb _ hb]; rfl
  have c5 : w.cell? ⟨b, 5, none⟩ = some x5 := by rw [cell_of_row w b 5 _ tb _ hb]; rfl
  have c6 : w.cell? ⟨b, 6, none⟩ = some x6 := by rw [cell_of_row w b 6 _ tb _ hb]; rfl
  have c7 : w.cell? ⟨b, 7, none⟩ = some x7 := by rw [cell_of_row w b 7 _ tb _ hb]; rfl
  have c8 : w.cell? ⟨b, 8, none⟩ = some x8 := by rw [cell_of_row w b 8 _ tb _ hb]; rfl
  have c9 : w.cell? ⟨b, 9, none⟩ = some x9 := by rw [cell_of_row w b 9 _ tb _ hb]; rfl
  have cy : w.cell? ⟨c, 0, none⟩ = some y := by rw [cell_of_row w c 0 _ tc _ hc]; rfl
  have fb : ∀ j, w.frozen? ⟨b, j, none⟩ = false := fun j => by simp [World.frozen?, hb]
  have fc : w.frozen? ⟨c, 0, none⟩ = false := by simp [World.frozen?, hc]
  have lb : b < w.heap.size := (Array.getElem?_eq_some_iff.1 hb).1
  have lc : c < w.heap.size := (Array.getElem?_eq_some_iff.1 hc).1
  apply wpS_seq
  apply wpS_region
  simp [wpOpsS, go_sem, recoverD, hu, Tryz.ntmps12, Exit.thenS]
  refine wpS_of_wp ?_
  change Code.wp _ _ _ { tmps := #[.pointer (some ⟨b, 0, none⟩), .pointer (some ⟨c, 0, none⟩), .iface 49 (.agg #[]), undef, undef, .iface 49 (.agg #[]), undef, undef, undef, undef, undef, undef, undef, undef, undef, undef, undef], defers := [] } _
  clear hb hc
  go_wp2
  have hcb : c ≠ b := fun e => hbc e.symm
  refine ⟨rfl, _, rfl, .tuple #[], by simp [results, Tryz.results12], rfl, rfl, fun B h1 h2 h3 => ?_, ?_⟩
  · repeat (first | with_reducible exact (Below.refl _ _) | with_reducible refine Below.setCell ?_ ?_ _ | with_reducible refine Below.alloc ?_ ?_ _ | with_reducible refine Below.drew ?_ | with_reducible refine below_drewN ?_ _ | omega | (simp <;> omega))
  · simp [go_sem, lb, lc, hbc, hcb, c0, c1, c2, c3, c4, c5, c6, c7, c8, c9, cy]


end Go.Proofs.YtjnfldkcbcfboaaGreatDoor
