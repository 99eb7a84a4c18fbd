import Derived.Test.YtcnnffbpdemoiaaW9
namespace Go.Proofs.Ytcnnffbpdemoiaa
open Go.RowKit
set_option linter.unusedVariables false

def R1 : RefS := ⟨1, 7, 1, 200⟩
def R2 : RefS := ⟨2, 7, 0, 50⟩
theorem AddPost.zero {w : World} {fs : List FareS} {l : List RefS} {r : RefS} {e : Ending} {w' : World} (h : AddPost w fs l r e w') (h0 : addL fs l r = 0) :
    ∃ b cap, e = .returned (.tuple #[.slice (some ⟨b, 0, none⟩) (l ++ [r]).length cap, .int .i64 0]) ∧ Below w.heap.size w w' ∧ RefS.sl w' (some ⟨b, 0, none⟩) cap (l ++ [r]) := by
  obtain ⟨v, he, hb, hc⟩ := h
  rcases hc with ⟨h1, _⟩ | ⟨_, b, cap, hv, hsl⟩
  · exact absurd h0 h1
  · exact ⟨b, cap, by rw [he, h0, hv], hb, hsl⟩
theorem AddPost.bad {w : World} {fs : List FareS} {l : List RefS} {r : RefS} {e : Ending} {w' : World} (h : AddPost w fs l r e w') (h0 : addL fs l r ≠ 0) :
    e = .returned (.tuple #[.slice none 0 0, .int .i64 (addL fs l r)]) ∧ Below w.heap.size w w' := by
  obtain ⟨v, he, hb, hc⟩ := h
  rcases hc with ⟨_, h1⟩ | ⟨h1, _⟩
  · exact ⟨by rw [he, h1], hb⟩
  · exact absurd h1 h0

set_option maxHeartbeats 2000000 in
theorem awake_c (w : World) : Calls Try.prog 11 #[] w (Ret w (.bool true)) := by
  have okR : ∀ X i r t m, I64 i → I64 r → I64 t → I64 m → RefS.ok X ⟨i, r, t, m⟩ := fun X i r t m a b c d => ⟨a, b, c, d⟩
  have OKR := hide okR; clear okR
  go_enter Try.func11, Try.ntmps11
  go_wp2_with (go_at_call 22; refine (fares_c _).mono ?_)
  rintro e w1 ⟨b1, d1, c1, rfl, hb1, hf1⟩
  have B1 := hide hb1; have F1 := hide hf1; clear hb1 hf1
  go_wp2_with (go_at_call 14; refine (add_c (some ⟨b1, 0, none⟩) none 1 0 [FA (some ⟨d1, 0, none⟩) c1] [] ⟨1, 7, 1, 200⟩ _ F1.out (sl_nil _) (OKR.out _ _ _ _ _ (i64_lit _ (by simp)) (i64_lit _ (by simp)) (i64_lit _ (by simp)) (i64_lit _ (by simp))) (by simp)).mono ?_)
  intro e w2 hadd
  obtain ⟨b2, c2, rfl, hb2, hl2⟩ := hadd.zero (val1 _ _)
  have L2 := hide hl2; have B2 := hide (B1.out.trans (hb2.mono B1.out.size)); clear hb2 hl2 hadd
  go_wp2_with (go_at_call 22; refine (fares_c _).mono ?_)
  rintro e w3 ⟨b3, d3, c3, rfl, hb3, hf3⟩
  have B3 := hide (B2.out.trans (hb3.mono B2.out.size)); have F3 := hide hf3; have L3 := hide (RefS.sl_below hb3 L2.out); clear hb3 hf3
  go_wp2_with (go_at_call 17; refine (left_c (some ⟨b3, 0, none⟩) (some ⟨b2, 0, none⟩) 1 c2 [FA (some ⟨d3, 0, none⟩) c3] [⟨1, 7, 1, 200⟩] 7 0 _ F3.out L3.out (i64_lit _ (by simp)) (i64_lit _ (by simp))).mono ?_)
  rintro e w4 ⟨rfl, hb4⟩
  rw [val2]
  have B4 := hide (B3.out.trans (hb4.mono B3.out.size)); have L4 := hide (RefS.sl_below hb4 L3.out); clear hb4
  go_wp2_with (go_at_call 22; refine (fares_c _).mono ?_)
  rintro e w5 ⟨b5, d5, c5, rfl, hb5, hf5⟩
  have B5 := hide (B4.out.trans (hb5.mono B4.out.size)); have F5 := hide hf5; have L5 := hide (RefS.sl_below hb5 L4.out); clear hb5 hf5
  go_wp2_with (go_at_call 19; refine (net_c (some ⟨b5, 0, none⟩) (some ⟨b2, 0, none⟩) 1 c2 [FA (some ⟨d5, 0, none⟩) c5] [⟨1, 7, 1, 200⟩] 7 _ F5.out L5.out (i64_lit _ (by simp))).mono ?_)
  rintro e w6 ⟨rfl, hb6⟩
  rw [val3]
  have B6 := hide (B5.out.trans (hb6.mono B5.out.size)); have L6 := hide (RefS.sl_below hb6 L5.out); clear hb6
  go_wp2_with (go_at_call 22; refine (fares_c _).mono ?_)
  rintro e w7 ⟨b7, d7, c7, rfl, hb7, hf7⟩
  have B7 := hide (B6.out.trans (hb7.mono B6.out.size)); have F7 := hide hf7; have L7 := hide (RefS.sl_below hb7 L6.out); clear hb7 hf7
  go_wp2_with (go_at_call 14; refine (add_c (some ⟨b7, 0, none⟩) (some ⟨b2, 0, none⟩) 1 c2 [FA (some ⟨d7, 0, none⟩) c7] [⟨1, 7, 1, 200⟩] ⟨2, 7, 0, 50⟩ _ F7.out L7.out (OKR.out _ _ _ _ _ (i64_lit _ (by simp)) (i64_lit _ (by simp)) (i64_lit _ (by simp)) (i64_lit _ (by simp))) (by simp)).mono ?_)
  intro e w8 hadd
  obtain ⟨b8, c8, rfl, hb8, -⟩ := hadd.zero (val4 _ _)
  have L8 := hide (RefS.sl_below hb8 L7.out); have B8 := hide (B7.out.trans (hb8.mono B7.out.size)); clear hb8 hadd
  go_wp2_with (go_at_call 22; refine (fares_c _).mono ?_)
  rintro e w9 ⟨b9, d9, c9, rfl, hb9, hf9⟩
  have B9 := hide (B8.out.trans (hb9.mono B8.out.size)); have F9 := hide hf9; have L9 := hide (RefS.sl_below hb9 L8.out); clear hb9 hf9
  go_wp2_with (go_at_call 14; refine (add_c (some ⟨b9, 0, none⟩) (some ⟨b2, 0, none⟩) 1 c2 [FA (some ⟨d9, 0, none⟩) c9] [⟨1, 7, 1, 200⟩] ⟨2, 7, 0, 51⟩ _ F9.out L9.out (OKR.out _ _ _ _ _ (i64_lit _ (by simp)) (i64_lit _ (by simp)) (i64_lit _ (by simp)) (i64_lit _ (by simp))) (by simp)).mono ?_)
  intro e wa hadd
  obtain ⟨rfl, hba⟩ := hadd.bad (by rw [val5]; decide)
  rw [val5]
  have Ba := hide (B9.out.trans (hba.mono B9.out.size)); clear hba hadd
  go_wp2_with (go_at_call 22; refine (fares_c _).mono ?_)
  rintro e wb ⟨bb, db, cb, rfl, hbb, hfb⟩
  have Bb := hide (Ba.out.trans (hbb.mono Ba.out.size)); have Fb := hide hfb; clear hbb hfb
  go_wp2_with (go_at_call 12; refine (check_c (some ⟨bb, 0, none⟩) (some ⟨wb.heap.size, 0, none⟩) 1 1 [FA (some ⟨db, 0, none⟩) cb] [⟨1, 7, 2, 1⟩] _ ?_ ?_).mono ?_)
  · exact FareS.sl_below ((Below.refl _ _).alloc (Nat.le_refl _) _) Fb.out
  · exact sl_one (by simp) (by simp [RefS.at]) (OKR.out _ _ _ _ _ (i64_lit _ (by simp)) (i64_lit _ (by simp)) (i64_lit _ (by simp)) (i64_lit _ (by simp)))
  rintro e wc ⟨rfl, hbc⟩
  rw [val6]
  have Bc := hide ((Bb.out.alloc Bb.out.size _).trans (hbc.mono (by have := Bb.out.size; simp; omega))); clear hbc
  go_wp2_with (go_at_call 22; refine (fares_c _).mono ?_)
  rintro e wd ⟨bd, dd, cd, rfl, hbd, hfd⟩
  have Bd := hide (Bc.out.trans (hbd.mono Bc.out.size)); have Fd := hide hfd; clear hbd hfd
  go_wp2_with (go_at_call 12; refine (check_c (some ⟨bd, 0, none⟩) (some ⟨wd.heap.size, 0, none⟩) 1 1 [FA (some ⟨dd, 0, none⟩) cd] [⟨1, 8, 0, 1⟩] _ ?_ ?_).mono ?_)
  · exact FareS.sl_below ((Below.refl _ _).alloc (Nat.le_refl _) _) Fd.out
  · exact sl_one (by simp) (by simp [RefS.at]) (OKR.out _ _ _ _ _ (i64_lit _ (by simp)) (i64_lit _ (by simp)) (i64_lit _ (by simp)) (i64_lit _ (by simp)))
  rintro e we ⟨rfl, hbe⟩
  rw [val7]
  have Be := hide ((Bd.out.alloc Bd.out.size _).trans (hbe.mono (by have := Bd.out.size; simp; omega))); clear hbe
  go_wp2
  go_ret
  exact ⟨rfl, Be.out⟩
end Go.Proofs.Ytcnnffbpdemoiaa
