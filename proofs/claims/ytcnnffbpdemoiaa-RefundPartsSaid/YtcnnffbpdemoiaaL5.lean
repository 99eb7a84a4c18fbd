import Derived.Test.YtcnnffbpdemoiaaWa
import Derived.Test.YtcnnffbpdemoiaaPp
namespace Go.Proofs.Ytcnnffbpdemoiaa
open Go.RowKit
set_option linter.unusedVariables false

theorem flat_amount : ∀ (l : List RefS) (k : Nat) (hk : k < l.length) (p : Int), RefS.flat (l.set k { l[k] with amount := p }) = (RefS.flat l).set (k * 4 + 3) (.int .i64 p)
  | [], k, hk, _ => by simp at hk
  | x :: l, 0, hk, p => by simp [RefS.flat_cons, RefS.vals]
  | x :: l, k + 1, hk, p => by
    have ih := flat_amount l k (by simpa using hk) p
    simp only [List.set_cons_succ, List.getElem_cons_succ, RefS.flat_cons]
    rw [ih, List.set_append_right _ _ (by simp only [RefS.vals, List.length_cons, List.length_nil]; omega)]
    congr 2
    simp only [RefS.vals, List.length_cons, List.length_nil]; omega

theorem ownsRow_set {w : World} {B g n c s : Nat} {e : TypeId} {xs : List Value} (h : w.ownsRow B e s (.slice (some ⟨g, 0, none⟩) n c) n xs) {j : Nat} (hj : j < n * s) (u : Value) : (w.setCell ⟨g, j, none⟩ u).ownsRow B e s (.slice (some ⟨g, 0, none⟩) n c) n (xs.set j u) := by
  obtain ⟨h1, h2⟩ := h
  refine ⟨by simpa using h1, ?_⟩
  rcases h2 with ⟨h2, _⟩ | ⟨g', cap, cur, hv, hg, hh, hle, hm, hs, ht⟩
  · cases h2
  · cases hv
    refine .inr ⟨g, c, cur.setIfInBounds j u, rfl, hg, heap_setCell_same w g j cur e u hh, hle, hm, by simpa using hs, ?_⟩
    rw [Array.toList_setIfInBounds, List.take_set, ht]

theorem ownsRow_some {w : World} {B n s : Nat} {e : TypeId} {v : Value} {xs : List Value} (h : w.ownsRow B e s v n xs) (hn : 0 < n) : ∃ g c, v = .slice (some ⟨g, 0, none⟩) n c ∧ B ≤ g ∧ (∀ j, w.frozen? ⟨g, j, none⟩ = false) ∧ (∀ j u, xs[j]? = some u → w.cell? ⟨g, j, none⟩ = some u) ∧ g < w.heap.size := by
  have hc := fun g (hg : v.ownBlock = some g) => h.cells hg
  obtain ⟨h1, h2⟩ := h
  rcases h2 with ⟨_, h2⟩ | ⟨g, c, cur, hv, hg, hh, _, _, _, _⟩
  · omega
  · subst hv
    exact ⟨g, c, rfl, hg, fun j => frozen_of_row w g j cur e hh, fun j u hj => by have := hc g rfl j u hj; rw [addr_add, Nat.zero_add] at this; exact this, (Array.getElem?_eq_some_iff.1 hh).1⟩

set_option maxRecDepth 100000 in
set_option maxHeartbeats 4000000 in
theorem parts_bad1 (a0 a : Option Addr) (cap0 cap : Nat) (fs : List FareS) (l : List RefS) (at_ part id ride item : Int) (w : World) (HF : FareS.sl w a0 cap0 fs)
    (H' : fewL fs = false ∨ (fewL fs = true ∧ (60 : Int) < l.length) ∨ (fewL fs = true ∧ (l.length : Int) ≤ 60 ∧ at_ < 0) ∨ (fewL fs = true ∧ (l.length : Int) ≤ 60 ∧ 0 ≤ at_ ∧ (l.length : Int) ≤ at_) ∨ (fewL fs = true ∧ (l.length : Int) ≤ 60 ∧ 0 ≤ at_ ∧ at_ < l.length ∧ id < 1) ∨ (fewL fs = true ∧ (l.length : Int) ≤ 60 ∧ 0 ≤ at_ ∧ at_ < l.length ∧ 1 ≤ id ∧ 1000000 < id)) :
    Calls Try.prog 8 #[.slice a0 fs.length cap0, .slice a l.length cap, .int .i64 at_, .int .i64 part, .int .i64 id, .int .i64 ride, .int .i64 item] w (Ret w (.bool true)) := by
  have HF' := hide HF; clear HF
  rcases H' with h | ⟨h1, h2⟩ | ⟨h1, h2, h3⟩ | ⟨h1, h2, h3, h4⟩ | ⟨h1, h2, h3, h4, h5⟩ | ⟨h1, h2, h3, h4, h5, h6⟩
  all_goals
    go_enter Try.func8, Try.ntmps8
    go_wp2_with fail
    refine (few_c a0 cap0 fs _ HF'.out).mono ?_
    rintro e w1 ⟨rfl, rfl⟩
    go_wp2_with fail
    refine (awake_c _).mono ?_
    rintro e w2 ⟨rfl, hb⟩
    have HB := hide hb; clear hb
    go_wp2
    go_ret
    exact ⟨rfl, HB.out⟩

set_option maxRecDepth 100000 in
set_option maxHeartbeats 4000000 in
theorem parts_bad2 (a0 : Option Addr) (b o cap0 cap : Nat) (fs : List FareS) (l : List RefS) (k : Nat) (part id ride item : Int) (w : World) (HF : FareS.sl w a0 cap0 fs) (H : RefS.sl w (some ⟨b, o, none⟩) cap l) (hbw : b < w.heap.size) (hk : k < l.length) (hcell : RefS.at w b (o + k * 4) l[k])
    (hfew : fewL fs = true) (hl : (l.length : Int) ≤ 60) (i1 : 1 ≤ id) (i2 : id ≤ 1000000) (H' : checkL fs l ≠ 0 ∨ (checkL fs l = 0 ∧ part < 1) ∨ (checkL fs l = 0 ∧ 1 ≤ part ∧ l[k].amount ≤ part)) :
    Calls Try.prog 8 #[.slice a0 fs.length cap0, .slice (some ⟨b, o, none⟩) l.length cap, .int .i64 k, .int .i64 part, .int .i64 id, .int .i64 ride, .int .i64 item] w (Ret w (.bool true)) := by
  have HF' := hide HF; clear HF
  have HL := hide H; clear H
  obtain ⟨h0, h1, h2, h3⟩ := hcell
  generalize hlk : l[k] = y at *
  have HLK := hide hlk; clear hlk
  have k0 : (0 : Int) ≤ (k : Int) := by omega
  have k1 : (k : Int) < (l.length : Int) := by omega
  have HFEW := hide hfew; clear hfew
  generalize hE : checkL fs l = E at *
  have HE := hide hE; clear hE
  rcases H' with c | ⟨c, c2⟩ | ⟨c, c2, c3⟩
  · have c' : (E != 0) = true := by simpa using c
    clear c
    go_enter Try.func8, Try.ntmps8
    go_wp2_with fail
    refine (few_c a0 cap0 fs _ HF'.out).mono ?_
    rintro e w1 ⟨rfl, rfl⟩
    rw [HFEW.out]
    go_wp2_with fail
    refine (check_c a0 _ cap0 cap fs l _ HF'.out HL.out).mono ?_
    rintro e w2 ⟨rfl, hb⟩
    rw [HE.out]
    have HB := hide hb; clear hb
    go_wp2_with fail
    refine (awake_c _).mono ?_
    rintro e w3 ⟨rfl, hb⟩
    have HB3 := hide (HB.out.trans (hb.mono HB.out.size)); clear hb
    go_wp2
    go_ret
    exact ⟨rfl, HB3.out⟩
  all_goals
    subst c
    go_enter Try.func8, Try.ntmps8
    go_wp2_with fail
    refine (few_c a0 cap0 fs _ HF'.out).mono ?_
    rintro e w1 ⟨rfl, rfl⟩
    rw [HFEW.out]
    go_wp2_with fail
    refine (check_c a0 _ cap0 cap fs l _ HF'.out HL.out).mono ?_
    rintro e w2 ⟨rfl, hb⟩
    rw [HE.out]
    have hc := (bcell hb).1
    have HB := hide hb; clear hb
    go_wp2_with fail
    refine (awake_c _).mono ?_
    rintro e w3 ⟨rfl, hb⟩
    have HB3 := hide (HB.out.trans (hb.mono HB.out.size)); clear hb
    go_wp2
    go_ret
    exact ⟨rfl, HB3.out⟩

end Go.Proofs.Ytcnnffbpdemoiaa
