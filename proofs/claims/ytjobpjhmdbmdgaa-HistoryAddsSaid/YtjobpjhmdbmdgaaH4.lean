/-
  The history of a city: checks; a copy of a list.
-/
import Derived.Test.YtjobpjhmdbmdgaaH3
namespace Go.Proofs.Ytjobpjhmdbmdgaa
open Go.RowKit
set_option linter.unusedVariables false
set_option linter.unusedSimpArgs false
set_option linter.unnecessarySimpa false

variable {M : Nat → Prop} {w : World}
theorem ints_of {l : List Int} {v : Value} (h : RepI M w (intsP l) v) : ∃ a cap, v = .slice a l.length cap ∧ SlI w a cap l := by
  obtain ⟨a, cap, rfl, h1, h2, h3, vals, h4, h5⟩ := of_sl (n := 1) intP (fun x _ => rfl) h
  refine ⟨a, cap, rfl, h1, h2, h3, fun hp => ?_, fun x hx => ?_⟩
  · obtain ⟨b, o, e, hb, hM, hc⟩ := h5 hp
    refine ⟨b, o, e, hb, fun i hi => ?_⟩
    have e := (pw_sc (us := [.int .i64 l[i]])).1 (h4 i hi) |>.1
    have hc := hc i hi 0 (.int .i64 l[i]) (by rw [← e]; rfl)
    simpa using hc
  · obtain ⟨i, hi, rfl⟩ := List.getElem_of_mem hx
    exact rng_i64.1 ((pw_sc (us := [.int .i64 l[i]])).1 (h4 i hi) |>.2 _ (by simp))
def intV' (l : List Int) : List Value := l.map fun x => .int .i64 x
theorem infoI : (Try.prog.info? 3).map (fun i => (i.zero, i.size, i.bytes)) = some (some (.int .i64 0), 1, 8) := by kernel_rfl
theorem info_parts {t : TypeId} {z : Value} {n m : Nat} (h : (Try.prog.info? t).map (fun i => (i.zero, i.size, i.bytes)) = some (some z, n, m)) : ∃ i, Try.prog.info? t = some i ∧ i.zero = some z ∧ i.size = n ∧ i.bytes = m := by
  cases hi : Try.prog.info? t with
  | none => rw [hi] at h; cases h
  | some i => rw [hi] at h; simp at h; exact ⟨i, rfl, h.1, h.2.1, h.2.2⟩
def OwnPost (e : TypeId) (size n : Nat) (xs : List Value) (w : World) (en : Ending) (w' : World) : Prop :=
  ∃ hdr, en = .returned hdr ∧ Below w.heap.size w w' ∧ hdr.oneCell' = true ∧ w'.ownsRow w.heap.size e size hdr n xs
set_option maxHeartbeats 4000000 in
theorem clone_c (a : Option Addr) (cap : Nat) (l : List Int) (w : World) (H : SlI w a cap l) (hlim : l.length ≤ 1000000) : Calls Try.prog 44 #[.slice a l.length cap] w (OwnPost 3 1 l.length (intV' l) w) := by
  obtain ⟨i0, hi, hz0, hz1, hz2⟩ := info_parts infoI
  have HI := hide hi; have HZ0 := hide hz0; have HZ1 := hide hz1; have HZ2 := hide hz2
  clear hi hz0 hz1 hz2
  have hnil := fun (w : World) (a : Option Addr) (n c : Nat) => Lib.run_eql_slice_nil (P := Try.prog) w 24 3 a n c 0 0 Try.underlying24
  have hlen : (intV' l).length = l.length * 1 := by simp [intV']
  have hone : ∀ u ∈ intV' l, u.oneCell' = true := by
    intro u hu; obtain ⟨x, _, rfl⟩ := List.mem_map.1 hu; rfl
  cases a with
  | none =>
    obtain rfl : cap = 0 := H.2.2.1 rfl
    have hl : l = [] := List.eq_nil_of_length_eq_zero (by have := H.1; omega)
    subst hl
    go_enter Try.func44, Try.ntmps44
    go_wp2
    go_ret
    exact ⟨_, rfl, Below.refl _ _, rfl, World.ownsRow_nil _ _ _ _⟩
  | some ad =>
    have hnews : ∀ j u, (intV' l)[j]? = some u → w.cell? (ad.add j) = some u := by
      intro j u hj
      have hj2 : j < l.length := by have := (List.getElem?_eq_some_iff.1 hj).1; simpa [intV'] using this
      obtain ⟨b, o, e, hb, hat⟩ := H.2.2.2.1 (by omega)
      cases e
      rw [addr_add, hat j hj2]
      unfold intV' at hj
      rw [List.getElem?_map, List.getElem?_eq_getElem hj2] at hj
      simpa using hj
    have hnb : ∀ (w1 : World), Below w.heap.size w w1 → ∀ j u, (intV' l)[j]? = some u → w1.cell? (ad.add j) = some u := by
      intro w1 hb j u hj
      have hj2 : j < l.length := by have := (List.getElem?_eq_some_iff.1 hj).1; simpa [intV'] using this
      obtain ⟨b, o, e, hlt, hat⟩ := H.2.2.2.1 (by omega)
      have h1 := hnews j u hj
      cases e
      rw [addr_add] at h1 ⊢
      rw [(bcell hb).1 _ _ hlt]; exact h1
    go_enter Try.func44, Try.ntmps44
    go_wp2_with (at_builtin; refine wpList_append_own _ rfl (.tmp 5) (.tmp 6) 24 rfl w.heap.size 3 i0 _ 1 8 Try.underlying24 HI.out HZ0.out HZ1.out HZ2.out rfl (by decide) (.slice (some ⟨w.heap.size, 0, none⟩) 0 0) 0 [] (by rfl) ?c0 ad l.length cap (intV' l) (by rfl) hlen ?c1 hone (by unfold maxLen; omega) (by omega) (by first | omega | (simp <;> omega)) ?_)
    case c0 => exact World.ownsRow_lit w #[] 0 (Nat.le_refl _) (by simp [maxLen]) rfl
    case c1 => exact hnb _ (by repeat (first | with_reducible exact (Below.refl _ _) | with_reducible refine Below.setCell ?_ ?_ _ | with_reducible refine Below.alloc ?_ ?_ _ | with_reducible refine Below.drew ?_ | with_reducible refine below_drewN ?_ _ | omega | (simp <;> omega)))
    intro v1 w1 hown hgrow _
    have HB : Hid (Below w.heap.size w w1) := Below.grown (by repeat (first | with_reducible exact (Below.refl _ _) | with_reducible refine Below.setCell ?_ ?_ _ | with_reducible refine Below.alloc ?_ ?_ _ | with_reducible refine Below.drew ?_ | with_reducible refine below_drewN ?_ _ | omega | (simp <;> omega))) hgrow (by first | omega | (simp <;> omega)) (fun k hk => by simp [Value.ownBlock] at hk; omega)
    have HO := hide hown; clear hown hgrow
    go_wp2
    go_ret
    refine ⟨v1, rfl, HB.out, ?_, by have := HO.out; simpa using this⟩
    rcases HO.out.2 with ⟨rfl, _⟩ | ⟨g, cap, cur, rfl, _⟩ <;> rfl
theorem clone_o (l : List Int) (hlim : l.length ≤ 1000000) : GoodO Try.prog 44 [intsP l] (fun id => .own id 0) 3 1 (l.map intP) := by
  intro M w vs hM hp
  obtain ⟨v, _, rfl, h1, hp⟩ := pw_cons.1 hp
  rw [pw_nil] at hp; subst hp
  obtain ⟨a, cap, rfl, hs⟩ := ints_of h1
  refine (clone_c a cap l w hs hlim).mono ?_
  rintro en w' ⟨hdr, rfl, hb, hone, hown⟩
  refine ⟨hdr, hdr, intV' l, rfl, hb, by decide, by rw [List.length_map]; exact hown, fun q hq => ?_, hone, ?_, fun L β M' id b hM' hL hβ => ?_⟩
  · obtain ⟨x, _, rfl⟩ := List.mem_map.1 hq; rfl
  · rw [ints_flatL]
    refine pw_sc.2 ⟨rfl, fun u hu => ?_⟩
    obtain ⟨x, hx, rfl⟩ := List.mem_map.1 hu
    exact rng_i64.2 (hs.2.2.2.2 x hx)
  · exact .own id 0 _ hL (Nat.zero_le _) (fun _ => by rw [hβ]) hone


end Go.Proofs.Ytjobpjhmdbmdgaa
