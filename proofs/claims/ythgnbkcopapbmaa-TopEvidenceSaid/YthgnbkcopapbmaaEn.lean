/-
  slices.Clone of legs and of pauses: a row of its own.
-/
import Derived.Test.YthgnbkcopapbmaaEk
import Derived.Laws.OwnMore
namespace Go.Proofs.Ythgnbkcopapbmaa
open Go.RowKit
open Nat (reduceAdd reduceEqDiff reduceLT reduceLeDiff reduceSub reducePow reduceMul)
open Int (reduceToNat reduceLE reduceEq)
set_option linter.unusedVariables false
set_option linter.unusedSimpArgs false
set_option linter.unnecessarySimpa false

theorem flat_get {α : Type} {vals : α → List Value} {n : Nat} (hn : 0 < n) (hv : ∀ x, (vals x).length = n) : ∀ {l : List α} {j : Nat} {u : Value}, (l.flatMap vals)[j]? = some u → ∃ i, ∃ hi : i < l.length, ∃ k, k < n ∧ j = i * n + k ∧ (vals l[i])[k]? = some u
  | [], j, u, h => by simp at h
  | x :: l, j, u, h => by
    rw [List.flatMap_cons] at h
    by_cases hj : j < n
    · rw [List.getElem?_append_left (by rw [hv]; exact hj)] at h
      exact ⟨0, by simp, j, hj, by simp, h⟩
    · rw [List.getElem?_append_right (by rw [hv]; omega), hv] at h
      obtain ⟨i, hi, k, hk, e, hu⟩ := flat_get hn hv h
      exact ⟨i + 1, by simpa using hi, k, hk, by rw [Nat.add_mul]; omega, by simpa using hu⟩
theorem flat_len2 {α : Type} {vals : α → List Value} {n : Nat} (hv : ∀ x, (vals x).length = n) (l : List α) : (l.flatMap vals).length = l.length * n := by
  induction l with
  | nil => simp
  | cons x l ih => rw [List.flatMap_cons, List.length_append, ih, hv, List.length_cons, Nat.add_mul]; omega
theorem flat_pv {α : Type} {vals : α → List Value} {pv : α → PV} (hp : ∀ x, pv x = .agg ((vals x).map .sc)) (hf : ∀ x, (pv x).flat = (vals x).map .sc) (l : List α) : flatL (l.map pv) = (l.flatMap vals).map .sc := by
  induction l with
  | nil => rfl
  | cons x l ih => simp only [List.map_cons, flatL, List.flatMap_cons, List.map_append] at ih ⊢; rw [ih, hf]
/-- What a slice of plain structs is in memory. -/
def SlF (w : World) (a : Option Addr) (cap : Nat) (m : Nat) (us : List Value) : Prop :=
  m ≤ cap ∧ cap ≤ maxLen ∧ (a = none → cap = 0) ∧ (0 < m → ∃ b o, a = some ⟨b, o, none⟩ ∧ b < w.heap.size) ∧ ∀ ad, a = some ad → ∀ j u, us[j]? = some u → w.cell? (ad.add j) = some u
theorem SlF.below {w w1 : World} {a : Option Addr} {cap m : Nat} {us : List Value} {n : Nat} (hb : Below w.heap.size w w1) (hu : us.length = m * n) (h : SlF w a cap m us) : SlF w1 a cap m us := by
  obtain ⟨h1, h2, h3, h4, h5⟩ := h
  refine ⟨h1, h2, h3, fun h => ?_, fun ad ha j u hj => ?_⟩
  · obtain ⟨b, o, e, hl⟩ := h4 h
    exact ⟨b, o, e, Nat.lt_of_lt_of_le hl hb.size⟩
  · have hj2 := (List.getElem?_eq_some_iff.1 hj).1
    have hm : 0 < m := by
      rcases Nat.eq_zero_or_pos m with h | h
      · subst h; rw [Nat.zero_mul] at hu; omega
      · exact h
    obtain ⟨b, o, e, hl⟩ := h4 hm
    have h6 := h5 ad ha j u hj
    rw [ha] at e; cases e
    rw [addr_add] at h6 ⊢
    rw [(bcell hb).1 _ _ hl]; exact h6
theorem slF_of {M : Nat → Prop} {w : World} {α : Type} {vals : α → List Value} {pv : α → PV} {n : Nat} (hn : 0 < n) (hv : ∀ x, (vals x).length = n) (hf : ∀ x, (pv x).flat = (vals x).map .sc) {l : List α} {v : Value} (h : RepI M w (.sl (l.map pv)) v) : ∃ a cap, v = .slice a l.length cap ∧ SlF w a cap l.length (l.flatMap vals) ∧ ∀ u ∈ l.flatMap vals, rngB u = true := by
  obtain ⟨a, cap, rfl, h1, h2, h3, vs, h4, h5⟩ := of_sl (n := n) pv (fun x _ => by rw [hf, List.length_map, hv]) h
  have hvs : ∀ i (hi : i < l.length), vs i = vals l[i] ∧ ∀ u ∈ vals l[i], rngB u = true := fun i hi => by
    have := h4 i hi
    rw [hf] at this
    obtain ⟨e, hr⟩ := pw_sc.1 this
    exact ⟨e.symm, hr⟩
  refine ⟨a, cap, rfl, ⟨h1, h2, h3, fun hp => ?_, fun ad ha j u hj => ?_⟩, fun u hu => ?_⟩
  · obtain ⟨b, o, e, hb, _⟩ := h5 hp
    exact ⟨b, o, e, hb⟩
  · obtain ⟨i, hi, k, hk, e, hu⟩ := flat_get hn hv hj
    obtain ⟨b, o, e2, hb, _, hc⟩ := h5 (by omega)
    rw [ha] at e2; cases e2
    have := hc i hi k u (by rw [(hvs i hi).1]; exact hu)
    rw [addr_add, e, ← Nat.add_assoc]; exact this
  · obtain ⟨x, hx, hu⟩ := List.mem_flatMap.1 hu
    obtain ⟨i, hi, rfl⟩ := List.getElem_of_mem hx
    exact (hvs i hi).2 u hu
def OwnPost (e : TypeId) (size n : Nat) (xs : List Value) (w : World) (en : Ending) (w' : World) : Prop :=
  ∃ hdr, en = .returned hdr ∧ Below w.heap.size w w' ∧ hdr.oneCell' = true ∧ w'.ownsRow w.heap.size e size hdr n xs
theorem info_parts {t : TypeId} {z : Value} {n m : Nat} (h : (Try.prog.info? t).map (fun i => (i.zero, i.size, i.bytes)) = some (some z, n, m)) : ∃ i, Try.prog.info? t = some i ∧ i.zero = some z ∧ i.size = n ∧ i.bytes = m := by
  cases hi : Try.prog.info? t with
  | none => rw [hi] at h; cases h
  | some i => rw [hi] at h; simp at h; exact ⟨i, rfl, h.1, h.2.1, h.2.2⟩
theorem infoLegS : (Try.prog.info? 59).map (fun i => (i.zero, i.size, i.bytes)) = some (some (.agg #[.int .i64 0, .int .i64 0, .int .i64 0, .int .i64 0, .int .i64 0]), 5, 40) := by kernel_rfl
set_option maxHeartbeats 4000000 in
theorem cloneLegS_c (a : Option Addr) (cap : Nat) (l : List LegS) (w : World) (H : SlF w a cap l.length (l.flatMap LegS.vals)) (hlim : l.length ≤ 1000000) : Calls Try.prog 41 #[.slice a l.length cap] w (OwnPost 59 5 l.length (l.flatMap LegS.vals) w) := by
  obtain ⟨i0, hi, hz0, hz1, hz2⟩ := info_parts infoLegS
  have HI := hide hi; have HZ0 := hide hz0; have HZ1 := hide hz1; have HZ2 := hide hz2
  clear hi hz0 hz1 hz2
  have hnil := fun (w : World) (a : Option Addr) (n c : Nat) => Lib.run_eql_slice_nil (P := Try.prog) w 29 59 a n c 0 0 Try.underlying29
  have hlen : (l.flatMap LegS.vals).length = l.length * 5 := flat_len2 (vals := LegS.vals) (n := 5) (fun _ => rfl) l
  have hone : ∀ u ∈ l.flatMap LegS.vals, u.oneCell' = true := by
    intro u hu; obtain ⟨x, _, hu⟩ := List.mem_flatMap.1 hu
    simp [LegS.vals] at hu
    rcases hu with rfl | rfl | rfl | rfl | rfl <;> rfl
  cases a with
  | none =>
    obtain rfl : cap = 0 := H.2.2.1 rfl
    have hl : l = [] := List.eq_nil_of_length_eq_zero (by have := H.1; omega)
    subst hl
    go_enter Try.func41, Try.ntmps41
    go_wp2
    go_ret
    exact ⟨_, rfl, Below.refl _ _, rfl, World.ownsRow_nil _ _ _ _⟩
  | some ad =>
    have hnb : ∀ (w1 : World), Below w.heap.size w w1 → ∀ j u, (l.flatMap LegS.vals)[j]? = some u → w1.cell? (ad.add j) = some u := fun w1 hb => (H.below hb hlen).2.2.2.2 ad rfl
    go_enter Try.func41, Try.ntmps41
    go_wp2_with (at_builtin; refine wpList_append_own _ rfl (.tmp 5) (.tmp 6) 29 rfl w.heap.size 59 i0 _ 5 40 Try.underlying29 HI.out HZ0.out HZ1.out HZ2.out rfl (by decide) (.slice (some ⟨w.heap.size, 0, none⟩) 0 0) 0 [] (by rfl) ?c0 ad l.length cap (l.flatMap LegS.vals) (by rfl) hlen ?c1 hone (by unfold maxLen; omega) (by omega) (by first | omega | (simp <;> omega)) ?_)
    case c0 => exact World.ownsRow_lit w #[] 0 (Nat.le_refl _) (by simp [maxLen]) rfl
    case c1 => exact hnb _ (by repeat (first | with_reducible exact (Below.refl _ _) | with_reducible refine Below.setCell ?_ ?_ _ | with_reducible refine Below.alloc ?_ ?_ _ | with_reducible refine Below.drew ?_ | with_reducible refine below_drewN ?_ _ | omega | (simp <;> omega)))
    intro v1 w1 hown hgrow _
    have HB : Hid (Below w.heap.size w w1) := Below.grown (by repeat (first | with_reducible exact (Below.refl _ _) | with_reducible refine Below.setCell ?_ ?_ _ | with_reducible refine Below.alloc ?_ ?_ _ | with_reducible refine Below.drew ?_ | with_reducible refine below_drewN ?_ _ | omega | (simp <;> omega))) hgrow (by first | omega | (simp <;> omega)) (fun k hk => by simp [Value.ownBlock] at hk; omega)
    have HO := hide hown; clear hown hgrow
    go_wp2
    go_ret
    refine ⟨v1, rfl, HB.out, ?_, by have := HO.out; simpa using this⟩
    rcases HO.out.2 with ⟨rfl, _⟩ | ⟨g, cap, cur, rfl, _⟩ <;> rfl
theorem cloneLegS_o (l : List LegS) (hlim : l.length ≤ 1000000) : GoodO Try.prog 41 [.sl (l.map LegS.pv)] (fun id => .own id 0) 59 5 (l.map LegS.pv) := by
  intro M w vs hM hp _
  obtain ⟨v, _, rfl, h1, hp⟩ := pw_cons.1 hp
  rw [pw_nil] at hp; subst hp
  obtain ⟨a, cap, rfl, hs, hr⟩ := slF_of (n := 5) (vals := LegS.vals) (pv := LegS.pv) (by decide) (fun _ => rfl) (fun _ => rfl) h1
  refine (cloneLegS_c a cap l w hs hlim).mono ?_
  rintro en w' ⟨hdr, rfl, hb, hone, hown⟩
  refine ⟨hdr, hdr, l.flatMap LegS.vals, rfl, hb, by decide, by rw [List.length_map]; exact hown, fun q hq => ?_, hone, ?_, fun L β M' id b hM' hL hβ => ?_⟩
  · obtain ⟨x, _, rfl⟩ := List.mem_map.1 hq; rfl
  · rw [flat_pv (vals := LegS.vals) (pv := LegS.pv) (fun _ => rfl) (fun _ => rfl)]
    exact pw_sc.2 ⟨rfl, hr⟩
  · exact .own id 0 _ hL (Nat.zero_le _) (fun _ => by rw [hβ]) hone
theorem infoPauseS : (Try.prog.info? 102).map (fun i => (i.zero, i.size, i.bytes)) = some (some (.agg #[.int .i64 0, .int .i64 0, .int .i64 0, .int .i64 0]), 4, 32) := by kernel_rfl
set_option maxHeartbeats 4000000 in
theorem clonePauseS_c (a : Option Addr) (cap : Nat) (l : List PauseS) (w : World) (H : SlF w a cap l.length (l.flatMap PauseS.vals)) (hlim : l.length ≤ 1000000) : Calls Try.prog 42 #[.slice a l.length cap] w (OwnPost 102 4 l.length (l.flatMap PauseS.vals) w) := by
  obtain ⟨i0, hi, hz0, hz1, hz2⟩ := info_parts infoPauseS
  have HI := hide hi; have HZ0 := hide hz0; have HZ1 := hide hz1; have HZ2 := hide hz2
  clear hi hz0 hz1 hz2
  have hnil := fun (w : World) (a : Option Addr) (n c : Nat) => Lib.run_eql_slice_nil (P := Try.prog) w 30 102 a n c 0 0 Try.underlying30
  have hlen : (l.flatMap PauseS.vals).length = l.length * 4 := flat_len2 (vals := PauseS.vals) (n := 4) (fun _ => rfl) l
  have hone : ∀ u ∈ l.flatMap PauseS.vals, u.oneCell' = true := by
    intro u hu; obtain ⟨x, _, hu⟩ := List.mem_flatMap.1 hu
    simp [PauseS.vals] at hu
    rcases hu with rfl | rfl | rfl | rfl <;> rfl
  cases a with
  | none =>
    obtain rfl : cap = 0 := H.2.2.1 rfl
    have hl : l = [] := List.eq_nil_of_length_eq_zero (by have := H.1; omega)
    subst hl
    go_enter Try.func42, Try.ntmps42
    go_wp2
    go_ret
    exact ⟨_, rfl, Below.refl _ _, rfl, World.ownsRow_nil _ _ _ _⟩
  | some ad =>
    have hnb : ∀ (w1 : World), Below w.heap.size w w1 → ∀ j u, (l.flatMap PauseS.vals)[j]? = some u → w1.cell? (ad.add j) = some u := fun w1 hb => (H.below hb hlen).2.2.2.2 ad rfl
    go_enter Try.func42, Try.ntmps42
    go_wp2_with (at_builtin; refine wpList_append_own _ rfl (.tmp 5) (.tmp 6) 30 rfl w.heap.size 102 i0 _ 4 32 Try.underlying30 HI.out HZ0.out HZ1.out HZ2.out rfl (by decide) (.slice (some ⟨w.heap.size, 0, none⟩) 0 0) 0 [] (by rfl) ?c0 ad l.length cap (l.flatMap PauseS.vals) (by rfl) hlen ?c1 hone (by unfold maxLen; omega) (by omega) (by first | omega | (simp <;> omega)) ?_)
    case c0 => exact World.ownsRow_lit w #[] 0 (Nat.le_refl _) (by simp [maxLen]) rfl
    case c1 => exact hnb _ (by repeat (first | with_reducible exact (Below.refl _ _) | with_reducible refine Below.setCell ?_ ?_ _ | with_reducible refine Below.alloc ?_ ?_ _ | with_reducible refine Below.drew ?_ | with_reducible refine below_drewN ?_ _ | omega | (simp <;> omega)))
    intro v1 w1 hown hgrow _
    have HB : Hid (Below w.heap.size w w1) := Below.grown (by repeat (first | with_reducible exact (Below.refl _ _) | with_reducible refine Below.setCell ?_ ?_ _ | with_reducible refine Below.alloc ?_ ?_ _ | with_reducible refine Below.drew ?_ | with_reducible refine below_drewN ?_ _ | omega | (simp <;> omega))) hgrow (by first | omega | (simp <;> omega)) (fun k hk => by simp [Value.ownBlock] at hk; omega)
    have HO := hide hown; clear hown hgrow
    go_wp2
    go_ret
    refine ⟨v1, rfl, HB.out, ?_, by have := HO.out; simpa using this⟩
    rcases HO.out.2 with ⟨rfl, _⟩ | ⟨g, cap, cur, rfl, _⟩ <;> rfl
theorem clonePauseS_o (l : List PauseS) (hlim : l.length ≤ 1000000) : GoodO Try.prog 42 [.sl (l.map PauseS.pv)] (fun id => .own id 0) 102 4 (l.map PauseS.pv) := by
  intro M w vs hM hp _
  obtain ⟨v, _, rfl, h1, hp⟩ := pw_cons.1 hp
  rw [pw_nil] at hp; subst hp
  obtain ⟨a, cap, rfl, hs, hr⟩ := slF_of (n := 4) (vals := PauseS.vals) (pv := PauseS.pv) (by decide) (fun _ => rfl) (fun _ => rfl) h1
  refine (clonePauseS_c a cap l w hs hlim).mono ?_
  rintro en w' ⟨hdr, rfl, hb, hone, hown⟩
  refine ⟨hdr, hdr, l.flatMap PauseS.vals, rfl, hb, by decide, by rw [List.length_map]; exact hown, fun q hq => ?_, hone, ?_, fun L β M' id b hM' hL hβ => ?_⟩
  · obtain ⟨x, _, rfl⟩ := List.mem_map.1 hq; rfl
  · rw [flat_pv (vals := PauseS.vals) (pv := PauseS.pv) (fun _ => rfl) (fun _ => rfl)]
    exact pw_sc.2 ⟨rfl, hr⟩
  · exact .own id 0 _ hL (Nat.zero_le _) (fun _ => by rw [hβ]) hone


end Go.Proofs.Ythgnbkcopapbmaa
