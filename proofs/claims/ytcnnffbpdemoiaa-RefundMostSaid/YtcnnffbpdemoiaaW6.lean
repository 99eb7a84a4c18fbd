import Derived.Test.YtcnnffbpdemoiaaW5
import Derived.Deep.RegionLawGrows
namespace Go.Proofs.Ytcnnffbpdemoiaa
open Go.RowKit
set_option linter.unusedVariables false

theorem info30 : (Try.prog.info? 30).map (fun i => (i.zero, i.size, i.bytes)) = some (some (.agg #[.int .i64 0, .int .i64 0, .int .i64 0, .int .i64 0]), 4, 32) := by kernel_rfl

def addL (fs : List FareS) (l : List RefS) (r : RefS) : Int := if checkL fs l ≠ 0 then checkL fs l else checkL fs (l ++ [r])
def AddPost (w : World) (fs : List FareS) (l : List RefS) (r : RefS) (e : Ending) (w' : World) : Prop :=
  ∃ v, e = .returned (.tuple #[v, .int .i64 (addL fs l r)]) ∧ Below w.heap.size w w' ∧
    ((addL fs l r ≠ 0 ∧ v = .slice none 0 0) ∨ (addL fs l r = 0 ∧ ∃ b cap, v = .slice (some ⟨b, 0, none⟩) (l ++ [r]).length cap ∧ RefS.sl w' (some ⟨b, 0, none⟩) cap (l ++ [r])))

theorem sl_cells {w : World} {ad : Addr} {cap : Nat} {l : List RefS} (H : RefS.sl w (some ad) cap l) : ∀ j u, (RefS.flat l)[j]? = some u → w.cell? (ad.add j) = some u ∧ ad.block < w.heap.size := by
  intro j u h
  by_cases hl : 0 < l.length
  · obtain ⟨b, o, hb, hlt, hat⟩ := H.2.2.2.1 hl
    cases hb
    rw [addr_add]
    exact ⟨RefS.at_flat l o hat j u h, hlt⟩
  · have : l = [] := List.eq_nil_of_length_eq_zero (by omega)
    subst this
    simp [RefS.flat_nil] at h

set_option maxHeartbeats 2000000 in
theorem add_some (a0 : Option Addr) (ad : Addr) (cap0 cap : Nat) (fs : List FareS) (l : List RefS) (r : RefS) (w : World) (HF : FareS.sl w a0 cap0 fs) (H : RefS.sl w (some ad) cap l) (hr : RefS.ok w r) (hl : l.length ≤ 600) :
    Calls Try.prog 14 #[.slice a0 fs.length cap0, .slice (some ad) l.length cap, .agg #[.int .i64 r.id, .int .i64 r.ride, .int .i64 r.item, .int .i64 r.amount]] w (AddPost w fs l r) := by
  have HL := hide H
  have hle := H.1
  have hlm := Nat.le_trans H.1 H.2.1
  unfold maxLen at hlm
  clear H
  have HF' := hide HF; clear HF
  have HR := hide hr; clear hr
  obtain ⟨i0, hi, hz0, hz1, hz2⟩ := info_parts info30
  have HI := hide hi; have HZ0 := hide hz0; have HZ1 := hide hz1; have HZ2 := hide hz2
  clear hi hz0 hz1 hz2
  go_enter Try.func14, Try.ntmps14
  go_wp2_with (go_at_call 12; refine (check_c a0 (some ad) cap0 cap fs l _ ?_ ?_).mono ?_)
  · exact FareS.sl_below ((Below.refl _ _).alloc (Nat.le_refl _) _) HF'.out
  · exact RefS.sl_below ((Below.refl _ _).alloc (Nat.le_refl _) _) HL.out
  · rintro e w1 ⟨rfl, hb⟩
    obtain ⟨hc, hz⟩ := bcell hb
    have hs := hb.size
    simp at hs hc hz
    have hs0 : w.heap.size < w.heap.size + 1 := by omega
    have hs2 : w.heap.size < w1.heap.size := by omega
    have HB := hide (((Below.refl w.heap.size w).alloc (Nat.le_refl _) _).trans (hb.mono (by simp)))
    generalize hE : checkL fs l = E at *
    have HE := hide hE; clear hE
    cases hE0 : (E != 0)
    · have hold : ∀ o j u, (RefS.flat l)[j]? = some u → (w1.drew.alloc o).cell? (ad.add j) = some u := by
        intro o j u h
        obtain ⟨h1, h2⟩ := sl_cells (RefS.sl_below HB.out HL.out) j u h
        rw [World.cell?_alloc_lt]
        · exact h1
        · unfold Addr.add; split <;> exact h2
      have HOLD := hide hold; clear hold
      go_wp2
      obtain ⟨l2, hl2⟩ : ∃ l2, l2 = l ++ [r] := ⟨_, rfl⟩
      have E1 := hide (show l.length + 1 = l2.length by rw [hl2, List.length_append]; rfl)
      have E2 := hide (show RefS.flat l ++ r.vals = RefS.flat l2 by rw [hl2, RefS.flat_append, RefS.flat_one])
      have E3 := hide (show 0 < l2.length by rw [hl2]; simp)
      have HL2 := hide hl2; clear hl2
      have hok' := hide (show ∀ (X : World), ∀ x ∈ l2, RefS.ok X x by
        intro X x hx
        rw [HL2.out] at hx
        rcases List.mem_append.1 hx with hx | hx
        · exact HL.out.2.2.2.2 x hx
        · simp at hx; subst hx; exact HR.out)
      go_region_law ((refine step_append_grows rfl (.tmp 22) (.tmp 24) 23 rfl 30 i0 _ 4 32 Try.underlying23 HI.out HZ0.out HZ1.out HZ2.out rfl (by decide) (some ad) l.length l.length (RefS.flat l) (by rfl) (by intro h; cases h) (RefS.flat_len l) (by intro b hb j u hj; cases hb; exact HOLD.out _ j u hj) ⟨w1.heap.size, 0, none⟩ 1 1 r.vals (by rfl) rfl (by intro j u hj; rw [addr_add]; simpa using hj) (by intro u hu; exact RefS.flat_cell [r] u (by simpa [RefS.flat] using hu)) (by omega) (by unfold maxLen; omega) (by omega) ?_; intro v' w2 hown hgrow; rw [E1.out, E2.out] at hown; obtain ⟨b, c, hv, hbb, hsl⟩ := RefS.sl_own hown E3.out (hok'.out _); rw [hv]; clear hv hown))
      have hgs := hgrow.size
      simp at hgs hbb
      have HB2 := hide ((((HB.out.alloc (by omega) _).drew).grown hgrow (by simp; omega) (fun k hk => by cases hk)))
      have HSL := hide hsl; clear hsl hgrow
      go_wp2_with (go_at_call 12; refine (check_c a0 (some ⟨b, 0, none⟩) cap0 c fs l2 _ ?_ ?_).mono ?_)
      · exact FareS.sl_below HB2.out HF'.out
      · exact HSL.out
      · rintro e w3 ⟨rfl, hb3⟩
        have hs3 := hb3.size
        have HB3 := hide (HB2.out.trans (hb3.mono (by omega)))
        have HSL3 := hide (RefS.sl_below hb3 HSL.out); clear hb3
        generalize hE2 : checkL fs l2 = E2 at *
        have HE2 := hide (show checkL fs (l ++ [r]) = E2 by rw [← HL2.out]; exact hE2); clear hE2
        have hV := hide (show addL fs l r = E2 by
          have h0 : E = 0 := by simpa using hE0
          simp [addL, HE.out, h0, HE2.out])
        cases hE20 : (E2 != 0)
        · have h20 := hide (show E2 = 0 by simpa using hE20)
          go_wp2
          go_ret2
          exact ⟨_, by rw [hV.out]; simp only [h20.out]; rfl, HB3.out, .inr ⟨by rw [hV.out]; exact h20.out, b, c, by rw [← HL2.out]; rfl, by rw [← HL2.out]; exact HSL3.out⟩⟩
        · have h20 := hide (show E2 ≠ 0 by simpa using hE20)
          go_wp2
          go_ret2
          exact ⟨_, by rw [hV.out]; rfl, HB3.out, .inl ⟨by rw [hV.out]; exact h20.out, rfl⟩⟩
    · have h20 := hide (show E ≠ 0 by simpa using hE0)
      have hV := hide (show addL fs l r = E by simp [addL, HE.out, h20.out])
      go_wp2
      go_ret2
      exact ⟨_, by rw [hV.out]; rfl, HB.out, .inl ⟨by rw [hV.out]; exact h20.out, rfl⟩⟩
set_option maxHeartbeats 2000000 in
theorem add_none (a0 : Option Addr) (cap0 : Nat) (fs : List FareS) (r : RefS) (w : World) (HF : FareS.sl w a0 cap0 fs) (hr : RefS.ok w r) :
    Calls Try.prog 14 #[.slice a0 fs.length cap0, .slice none 0 0, .agg #[.int .i64 r.id, .int .i64 r.ride, .int .i64 r.item, .int .i64 r.amount]] w (AddPost w fs [] r) := by
  have HL : ∀ X, Hid (RefS.sl X none 0 []) := fun X => hide (⟨Nat.le_refl _, Nat.zero_le _, fun _ => rfl, fun h => absurd h (Nat.lt_irrefl 0), fun x hx => by cases hx⟩)
  have HF' := hide HF; clear HF
  have HR := hide hr; clear hr
  obtain ⟨i0, hi, hz0, hz1, hz2⟩ := info_parts info30
  have HI := hide hi; have HZ0 := hide hz0; have HZ1 := hide hz1; have HZ2 := hide hz2
  clear hi hz0 hz1 hz2
  go_enter Try.func14, Try.ntmps14
  go_wp2_with (go_at_call 12; refine (check_c a0 none cap0 0 fs [] _ ?_ ?_).mono ?_)
  · exact FareS.sl_below ((Below.refl _ _).alloc (Nat.le_refl _) _) HF'.out
  · exact (HL _).out
  · rintro e w1 ⟨rfl, hb⟩
    obtain ⟨hc, hz⟩ := bcell hb
    have hs := hb.size
    simp at hs hc hz
    have hs0 : w.heap.size < w.heap.size + 1 := by omega
    have hs2 : w.heap.size < w1.heap.size := by omega
    have HB := hide (((Below.refl w.heap.size w).alloc (Nat.le_refl _) _).trans (hb.mono (by simp)))
    generalize hE : checkL fs [] = E at *
    have HE := hide hE; clear hE
    cases hE0 : (E != 0)
    · go_wp2
      obtain ⟨l2, hl2⟩ : ∃ l2, l2 = [r] := ⟨_, rfl⟩
      have E1 := hide (show 0 + 1 = l2.length by rw [hl2]; rfl)
      have E2 := hide (show [] ++ r.vals = RefS.flat l2 by rw [hl2, RefS.flat_one]; rfl)
      have E3 := hide (show 0 < l2.length by rw [hl2]; simp)
      have HL2 := hide hl2; clear hl2
      have hok' := hide (show ∀ (X : World), ∀ x ∈ l2, RefS.ok X x by
        intro X x hx
        rw [HL2.out] at hx
        simp at hx; subst hx; exact HR.out)
      go_region_law ((refine step_append_grows rfl (.tmp 22) (.tmp 24) 23 rfl 30 i0 _ 4 32 Try.underlying23 HI.out HZ0.out HZ1.out HZ2.out rfl (by decide) none 0 0 [] (by rfl) (by intro h; exact ⟨rfl, rfl⟩) rfl (by intro b hb j u hj; cases hb) ⟨w1.heap.size, 0, none⟩ 1 1 r.vals (by rfl) rfl (by intro j u hj; rw [addr_add]; simpa using hj) (by intro u hu; exact RefS.flat_cell [r] u (by simpa [RefS.flat] using hu)) (by omega) (by unfold maxLen; omega) (by omega) ?_; intro v' w2 hown hgrow; rw [E1.out, E2.out] at hown; obtain ⟨b, c, hv, hbb, hsl⟩ := RefS.sl_own hown E3.out (hok'.out _); rw [hv]; clear hv hown))
      have hgs := hgrow.size
      simp at hgs hbb
      have HB2 := hide ((((HB.out.alloc (by omega) _).drew).grown hgrow (by simp; omega) (fun k hk => by cases hk)))
      have HSL := hide hsl; clear hsl hgrow
      go_wp2_with (go_at_call 12; refine (check_c a0 (some ⟨b, 0, none⟩) cap0 c fs l2 _ ?_ ?_).mono ?_)
      · exact FareS.sl_below HB2.out HF'.out
      · exact HSL.out
      · rintro e w3 ⟨rfl, hb3⟩
        have hs3 := hb3.size
        have HB3 := hide (HB2.out.trans (hb3.mono (by omega)))
        have HSL3 := hide (RefS.sl_below hb3 HSL.out); clear hb3
        generalize hE2 : checkL fs l2 = E2 at *
        have HE2 := hide (show checkL fs [r] = E2 by rw [← HL2.out]; exact hE2); clear hE2
        have hV := hide (show addL fs [] r = E2 by
          have h0 : E = 0 := by simpa using hE0
          simp [addL, HE.out, h0, HE2.out])
        cases hE20 : (E2 != 0)
        · have h20 := hide (show E2 = 0 by simpa using hE20)
          go_wp2
          go_ret2
          exact ⟨_, by rw [hV.out]; simp only [h20.out]; rfl, HB3.out, .inr ⟨by rw [hV.out]; exact h20.out, b, c, by rw [← HL2.out]; rfl, by rw [← HL2.out]; exact HSL3.out⟩⟩
        · have h20 := hide (show E2 ≠ 0 by simpa using hE20)
          go_wp2
          go_ret2
          exact ⟨_, by rw [hV.out]; rfl, HB3.out, .inl ⟨by rw [hV.out]; exact h20.out, rfl⟩⟩
    · have h20 := hide (show E ≠ 0 by simpa using hE0)
      have hV := hide (show addL fs [] r = E by simp [addL, HE.out, h20.out])
      go_wp2
      go_ret2
      exact ⟨_, by rw [hV.out]; rfl, HB.out, .inl ⟨by rw [hV.out]; exact h20.out, rfl⟩⟩

theorem add_c (a0 a : Option Addr) (cap0 cap : Nat) (fs : List FareS) (l : List RefS) (r : RefS) (w : World) (HF : FareS.sl w a0 cap0 fs) (H : RefS.sl w a cap l) (hr : RefS.ok w r) (hl : l.length ≤ 600) :
    Calls Try.prog 14 #[.slice a0 fs.length cap0, .slice a l.length cap, .agg #[.int .i64 r.id, .int .i64 r.ride, .int .i64 r.item, .int .i64 r.amount]] w (AddPost w fs l r) := by
  cases a with
  | some ad => exact add_some a0 ad cap0 cap fs l r w HF H hr hl
  | none =>
    obtain rfl : cap = 0 := H.2.2.1 rfl
    have : l = [] := List.eq_nil_of_length_eq_zero (by have := H.1; omega)
    subst this
    exact add_none a0 cap0 fs r w HF hr
end Go.Proofs.Ytcnnffbpdemoiaa
