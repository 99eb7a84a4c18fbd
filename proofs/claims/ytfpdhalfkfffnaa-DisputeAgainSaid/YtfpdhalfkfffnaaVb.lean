import Derived.Test.YtfpdhalfkfffnaaVa
import Derived.Laws.OwnMore
namespace Go.Proofs.Ytfpdhalfkfffnaa
open Go.RowKit
set_option linter.unusedVariables false
set_option linter.unusedSimpArgs false
set_option linter.unnecessarySimpa false

def OwnPost (e : TypeId) (size n : Nat) (xs : List Value) (w : World) (en : Ending) (w' : World) : Prop :=
  ∃ a cap, en = .returned (.slice a n cap) ∧ Below w.heap.size w w' ∧ w'.ownsRow w.heap.size e size (.slice a n cap) n xs
theorem OwnPost.mk {e : TypeId} {size n : Nat} {xs : List Value} {w w' : World} {v : Value} (hb : Below w.heap.size w w') (h : w'.ownsRow w.heap.size e size v n xs) : OwnPost e size n xs w (.returned v) w' := by
  rcases h.2 with ⟨rfl, rfl⟩ | ⟨g, cap, cur, rfl, _⟩
  · exact ⟨none, 0, rfl, hb, h⟩
  · exact ⟨some ⟨g, 0, none⟩, cap, rfl, hb, h⟩
theorem info47 : (Try.prog.info? 47).map (fun i => (i.zero, i.size, i.bytes)) = some (some (.agg #[.int .i64 0, .int .i64 0, .int .i64 0, .int .i64 0, .int .i64 0]), 5, 40) := by kernel_rfl
theorem info62 : (Try.prog.info? 62).map (fun i => (i.zero, i.size, i.bytes)) = some (some (.agg #[.int .i64 0, .int .i64 0, .int .i64 0, .int .i64 0]), 4, 32) := by kernel_rfl
theorem LegS.sl_news {w : World} {ad : Addr} {cap : Nat} {l : List LegS} (h : LegS.sl w (some ad) cap l) : ∀ j u, (LegS.flat l)[j]? = some u → w.cell? (ad.add j) = some u := by
  intro j u hj
  by_cases h0 : 0 < l.length
  · obtain ⟨b, o, ha, hlt, hat⟩ := h.2.2.2.1 h0
    cases ha
    rw [addr_add]; exact LegS.at_flat l o hat j u hj
  · have : l = [] := List.eq_nil_of_length_eq_zero (by omega)
    subst this; simp [LegS.flat_nil] at hj
theorem PauseS.sl_news {w : World} {ad : Addr} {cap : Nat} {l : List PauseS} (h : PauseS.sl w (some ad) cap l) : ∀ j u, (PauseS.flat l)[j]? = some u → w.cell? (ad.add j) = some u := by
  intro j u hj
  by_cases h0 : 0 < l.length
  · obtain ⟨b, o, ha, hlt, hat⟩ := h.2.2.2.1 h0
    cases ha
    rw [addr_add]; exact PauseS.at_flat l o hat j u hj
  · have : l = [] := List.eq_nil_of_length_eq_zero (by omega)
    subst this; simp [PauseS.flat_nil] at hj
set_option maxRecDepth 100000 in
set_option maxHeartbeats 8000000 in
theorem cloneL_c (a : Option Addr) (cap : Nat) (l : List LegS) (w : World) (H : LegS.sl w a cap l) (hlim : l.length ≤ 1000000) : Calls Try.prog 42 #[.slice a l.length cap] w (OwnPost 47 5 l.length (LegS.flat l) w) := by
  obtain ⟨i0, hi, hz0, hz1, hz2⟩ := info_parts info47
  have HI := hide hi; have HZ0 := hide hz0; have HZ1 := hide hz1; have HZ2 := hide hz2
  clear hi hz0 hz1 hz2
  have hnil := fun (w : World) (a : Option Addr) (n c : Nat) => Lib.run_eql_slice_nil (P := Try.prog) w 24 47 a n c 0 0 Try.underlying24
  cases a with
  | none =>
    obtain rfl : cap = 0 := H.2.2.1 rfl
    have hl : l = [] := List.eq_nil_of_length_eq_zero (by have := H.1; omega)
    subst hl
    go_enter Try.func42, Try.ntmps42
    go_wp2
    go_ret
    exact OwnPost.mk (Below.refl _ _) (World.ownsRow_nil _ _ _ _)
  | some ad =>
    have hc := hide (LegS.sl_news H)
    go_enter Try.func42, Try.ntmps42
    go_wp2_with (at_builtin; refine wpList_append_own _ rfl (.tmp 5) (.tmp 6) 24 rfl w.heap.size 47 i0 _ 5 40 Try.underlying24 HI.out HZ0.out HZ1.out HZ2.out rfl (by decide) (.slice (some ⟨w.heap.size, 0, none⟩) 0 0) 0 [] (by rfl) ?c0 ad l.length cap (LegS.flat l) (by rfl) (LegS.flat_len l) ?c1 (LegS.flat_cell l) (by unfold maxLen; omega) (by omega) (by first | omega | (simp <;> omega)) ?_)
    case c0 => exact World.ownsRow_lit w #[] 0 (Nat.le_refl _) (by simp [maxLen]) rfl
    case c1 => exact LegS.sl_news (LegS.sl_below (by repeat (first | with_reducible exact (Below.refl _ _) | with_reducible refine Below.setCell ?_ ?_ _ | with_reducible refine Below.alloc ?_ ?_ _ | with_reducible refine Below.drew ?_ | with_reducible refine below_drewN ?_ _ | omega | (simp <;> omega))) H)
    intro v1 w1 hown hgrow _
    have HB : Hid (Below w.heap.size w w1) := Below.grown (by repeat (first | with_reducible exact (Below.refl _ _) | with_reducible refine Below.setCell ?_ ?_ _ | with_reducible refine Below.alloc ?_ ?_ _ | with_reducible refine Below.drew ?_ | with_reducible refine below_drewN ?_ _ | omega | (simp <;> omega))) hgrow (by first | omega | (simp <;> omega)) (fun k hk => by simp [Value.ownBlock] at hk; omega)
    have HO := hide hown; clear hown hgrow
    go_wp2
    go_ret
    exact OwnPost.mk HB.out (by have := HO.out; simpa using this)
set_option maxRecDepth 100000 in
set_option maxHeartbeats 8000000 in
theorem cloneP_c (a : Option Addr) (cap : Nat) (l : List PauseS) (w : World) (H : PauseS.sl w a cap l) (hlim : l.length ≤ 1000000) : Calls Try.prog 43 #[.slice a l.length cap] w (OwnPost 62 4 l.length (PauseS.flat l) w) := by
  obtain ⟨i0, hi, hz0, hz1, hz2⟩ := info_parts info62
  have HI := hide hi; have HZ0 := hide hz0; have HZ1 := hide hz1; have HZ2 := hide hz2
  clear hi hz0 hz1 hz2
  have hnil := fun (w : World) (a : Option Addr) (n c : Nat) => Lib.run_eql_slice_nil (P := Try.prog) w 25 62 a n c 0 0 Try.underlying25
  cases a with
  | none =>
    obtain rfl : cap = 0 := H.2.2.1 rfl
    have hl : l = [] := List.eq_nil_of_length_eq_zero (by have := H.1; omega)
    subst hl
    go_enter Try.func43, Try.ntmps43
    go_wp2
    go_ret
    exact OwnPost.mk (Below.refl _ _) (World.ownsRow_nil _ _ _ _)
  | some ad =>
    have hc := hide (PauseS.sl_news H)
    go_enter Try.func43, Try.ntmps43
    go_wp2_with (at_builtin; refine wpList_append_own _ rfl (.tmp 5) (.tmp 6) 25 rfl w.heap.size 62 i0 _ 4 32 Try.underlying25 HI.out HZ0.out HZ1.out HZ2.out rfl (by decide) (.slice (some ⟨w.heap.size, 0, none⟩) 0 0) 0 [] (by rfl) ?c0 ad l.length cap (PauseS.flat l) (by rfl) (PauseS.flat_len l) ?c1 (PauseS.flat_cell l) (by unfold maxLen; omega) (by omega) (by first | omega | (simp <;> omega)) ?_)
    case c0 => exact World.ownsRow_lit w #[] 0 (Nat.le_refl _) (by simp [maxLen]) rfl
    case c1 => exact PauseS.sl_news (PauseS.sl_below (by repeat (first | with_reducible exact (Below.refl _ _) | with_reducible refine Below.setCell ?_ ?_ _ | with_reducible refine Below.alloc ?_ ?_ _ | with_reducible refine Below.drew ?_ | with_reducible refine below_drewN ?_ _ | omega | (simp <;> omega))) H)
    intro v1 w1 hown hgrow _
    have HB : Hid (Below w.heap.size w w1) := Below.grown (by repeat (first | with_reducible exact (Below.refl _ _) | with_reducible refine Below.setCell ?_ ?_ _ | with_reducible refine Below.alloc ?_ ?_ _ | with_reducible refine Below.drew ?_ | with_reducible refine below_drewN ?_ _ | omega | (simp <;> omega))) hgrow (by first | omega | (simp <;> omega)) (fun k hk => by simp [Value.ownBlock] at hk; omega)
    have HO := hide hown; clear hown hgrow
    go_wp2
    go_ret
    exact OwnPost.mk HB.out (by have := HO.out; simpa using this)


end Go.Proofs.Ytfpdhalfkfffnaa
