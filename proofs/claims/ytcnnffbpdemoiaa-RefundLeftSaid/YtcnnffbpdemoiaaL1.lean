import Derived.Test.YtcnnffbpdemoiaaWa
import Derived.Test.YtcnnffbpdemoiaaPl
namespace Go.Proofs.Ytcnnffbpdemoiaa
open Go.RowKit
set_option linter.unusedVariables false

set_option maxHeartbeats 2000000 in
theorem lawChecks (a0 a : Option Addr) (cap0 cap : Nat) (fs : List FareS) (l : List RefS) (w : World) (HF : FareS.sl w a0 cap0 fs) (H : RefS.sl w a cap l) :
    Calls Try.prog 3 #[.slice a0 fs.length cap0, .slice a l.length cap] w (Ret w (.bool true)) := by
  have HL := hide H; clear H
  have HF' := hide HF; clear HF
  go_enter Try.func3, Try.ntmps3
  go_wp2_with (go_at_call 10; refine (few_c a0 cap0 fs _ HF'.out).mono ?_)
  rintro e w1 ⟨rfl, rfl⟩
  cases hfew : fewL fs
  · go_wp2_with (go_at_call 11; refine (awake_c _).mono ?_)
    rintro e w2 ⟨rfl, hb⟩
    have HB := hide hb; clear hb
    go_wp2
    go_ret
    exact ⟨rfl, HB.out⟩
  · by_cases h600 : (600 : Int) < l.length
    · go_wp2_with (go_at_call 11; refine (awake_c _).mono ?_)
      rintro e w2 ⟨rfl, hb⟩
      have HB := hide hb; clear hb
      go_wp2
      go_ret
      exact ⟨rfl, HB.out⟩
    · have h' : (l.length : Int) ≤ 600 := by omega
      clear h600
      go_wp2_with (go_at_call 12; refine (check_c a0 a cap0 cap fs l _ HF'.out HL.out).mono ?_)
      rintro e w2 ⟨rfl, hb⟩
      have B2 := hide hb; clear hb
      go_wp2_with (go_at_call 13; refine (rcheck_c a0 a cap0 cap fs l _ (FareS.sl_below B2.out HF'.out) (RefS.sl_below B2.out HL.out)).mono ?_)
      rintro e w3 ⟨rfl, hb⟩
      have B3 := hide (B2.out.trans (hb.mono B2.out.size)); clear hb
      go_wp2_with (go_at_call 11; refine (awake_c _).mono ?_)
      rintro e w4 ⟨rfl, hb⟩
      have B4 := hide (B3.out.trans (hb.mono B3.out.size)); clear hb
      go_wp2
      go_ret
      exact ⟨rfl, B4.out⟩

set_option maxHeartbeats 2000000 in
theorem lawAdds (a0 a : Option Addr) (cap0 cap : Nat) (fs : List FareS) (l : List RefS) (r : RefS) (w : World) (HF : FareS.sl w a0 cap0 fs) (H : RefS.sl w a cap l) (hr : RefS.ok w r) :
    Calls Try.prog 4 #[.slice a0 fs.length cap0, .slice a l.length cap, .agg #[.int .i64 r.id, .int .i64 r.ride, .int .i64 r.item, .int .i64 r.amount]] w (Ret w (.bool true)) := by
  have HL := hide H; clear H
  have HF' := hide HF; clear HF
  have HR := hide hr; clear hr
  go_enter Try.func4, Try.ntmps4
  have B0 := hide (show Below w.heap.size w (w.alloc (.cells #[.int .i64 r.id, .int .i64 r.ride, .int .i64 r.item, .int .i64 r.amount] 30)) from (Below.refl _ _).alloc (Nat.le_refl _) _)
  go_wp2_with (go_at_call 10; refine (few_c a0 cap0 fs _ (FareS.sl_below B0.out HF'.out)).mono ?_)
  rintro e w1 ⟨rfl, rfl⟩
  cases hfew : fewL fs
  · go_wp2_with (go_at_call 11; refine (awake_c _).mono ?_)
    rintro e w2 ⟨rfl, hb⟩
    have HB := hide (B0.out.trans (hb.mono (by simp))); clear hb
    go_wp2
    go_ret
    exact ⟨rfl, HB.out⟩
  · by_cases h600 : (600 : Int) < l.length
    · go_wp2_with (go_at_call 11; refine (awake_c _).mono ?_)
      rintro e w2 ⟨rfl, hb⟩
      have HB := hide (B0.out.trans (hb.mono (by simp))); clear hb
      go_wp2
      go_ret
      exact ⟨rfl, HB.out⟩
    · have h' : (l.length : Int) ≤ 600 := by omega
      have h'' : l.length ≤ 600 := by omega
      clear h600
      go_wp2_with (go_at_call 14; refine (add_c a0 a cap0 cap fs l r _ (FareS.sl_below B0.out HF'.out) (RefS.sl_below B0.out HL.out) HR.out h'').mono ?_)
      intro e w2 hadd
      have hb1 : Below (w.alloc (.cells #[.int .i64 r.id, .int .i64 r.ride, .int .i64 r.item, .int .i64 r.amount] 30)).heap.size (w.alloc (.cells #[.int .i64 r.id, .int .i64 r.ride, .int .i64 r.item, .int .i64 r.amount] 30)) w2 := by obtain ⟨_, _, hb, _⟩ := hadd; exact hb
      obtain ⟨hc, hz⟩ := bcell hb1
      have hs := hb1.size
      simp at hc hz hs
      have hs0 : w.heap.size < w.heap.size + 1 := by omega
      have B2 := hide (B0.out.trans (hb1.mono (by simp))); clear hb1
      by_cases h0 : addL fs l r = 0
      · obtain ⟨b, c, rfl, -, hl2⟩ := hadd.zero h0
        have H0 := hide h0; clear h0
        have L2 := hide hl2; clear hl2 hadd
        obtain ⟨l2, hl2⟩ : ∃ l2, l2 = l ++ [r] := ⟨_, rfl⟩
        rw [← hl2] at L2 ⊢
        have HL2 := hide hl2; clear hl2
        go_wp2_with (go_at_call 15; refine (radd_c a0 a cap0 cap fs l r _ (FareS.sl_below B2.out HF'.out) (RefS.sl_below B2.out HL.out) HR.out h'').mono ?_)
        intro e w3 hadd
        obtain ⟨b3, c3, rfl, hb3, hl3⟩ := hadd.zero H0.out
        rw [← HL2.out] at hl3 ⊢
        have B3 := hide (B2.out.trans (hb3.mono B2.out.size)); have L3 := hide hl3; have L2' := hide (RefS.sl_below hb3 L2.out); clear hb3 hl3 hadd
        go_wp2_with (go_at_call 16; refine (same_c _ _ _ _ l2 _ L2'.out L3.out).mono ?_)
        rintro e w4 ⟨rfl, hb⟩
        have B4 := hide (B3.out.trans (hb.mono B3.out.size)); clear hb
        go_wp2_with (go_at_call 11; refine (awake_c _).mono ?_)
        rintro e w5 ⟨rfl, hb⟩
        have B5 := hide (B4.out.trans (hb.mono B4.out.size)); clear hb
        go_wp2
        go_ret
        exact ⟨rfl, B5.out⟩
      · have H0 := hide h0
        obtain ⟨rfl, -⟩ := hadd.bad h0
        clear hadd h0
        go_wp2_with (go_at_call 15; refine (radd_c a0 a cap0 cap fs l r _ (FareS.sl_below B2.out HF'.out) (RefS.sl_below B2.out HL.out) HR.out h'').mono ?_)
        intro e w3 hadd
        obtain ⟨rfl, hb3⟩ := hadd.bad H0.out
        have B3 := hide (B2.out.trans (hb3.mono B2.out.size)); clear hb3 hadd
        go_wp2_with (go_at_call 16; refine (same_c none none 0 0 [] _ (sl_nil _) (sl_nil _)).mono ?_)
        rintro e w4 ⟨rfl, hb⟩
        have B4 := hide (B3.out.trans (hb.mono B3.out.size)); clear hb
        go_wp2_with (go_at_call 11; refine (awake_c _).mono ?_)
        rintro e w5 ⟨rfl, hb⟩
        have B5 := hide (B4.out.trans (hb.mono B4.out.size)); clear hb
        go_wp2
        go_ret
        exact ⟨rfl, B5.out⟩

set_option maxHeartbeats 2000000 in
theorem lawLeft (a0 a : Option Addr) (cap0 cap : Nat) (fs : List FareS) (l : List RefS) (ride i : Int) (w : World) (HF : FareS.sl w a0 cap0 fs) (H : RefS.sl w a cap l) (jr : I64 ride) (ji : I64 i) :
    Calls Try.prog 5 #[.slice a0 fs.length cap0, .slice a l.length cap, .int .i64 ride, .int .i64 i] w (Ret w (.bool true)) := by
  have HL := hide H; clear H
  have HF' := hide HF; clear HF
  have JR := hide jr; have JI := hide ji; clear jr ji
  go_enter Try.func5, Try.ntmps5
  go_wp2_with (go_at_call 10; refine (few_c a0 cap0 fs _ HF'.out).mono ?_)
  rintro e w1 ⟨rfl, rfl⟩
  cases hfew : fewL fs
  · go_wp2_with (go_at_call 11; refine (awake_c _).mono ?_)
    rintro e w2 ⟨rfl, hb⟩
    have HB := hide hb; clear hb
    go_wp2
    go_ret
    exact ⟨rfl, HB.out⟩
  · by_cases h600 : (600 : Int) < l.length
    · go_wp2_with (go_at_call 11; refine (awake_c _).mono ?_)
      rintro e w2 ⟨rfl, hb⟩
      have HB := hide hb; clear hb
      go_wp2
      go_ret
      exact ⟨rfl, HB.out⟩
    · have h' : (l.length : Int) ≤ 600 := by omega
      clear h600
      go_wp2_with (go_at_call 17; refine (left_c a0 a cap0 cap fs l ride i _ HF'.out HL.out JR.out JI.out).mono ?_)
      rintro e w2 ⟨rfl, hb⟩
      rw [left_eq HF'.out]
      have B2 := hide hb; clear hb
      go_wp2_with (go_at_call 18; refine (rleft_c a0 a cap0 cap fs l ride i _ (FareS.sl_below B2.out HF'.out) (RefS.sl_below B2.out HL.out)).mono ?_)
      rintro e w3 ⟨rfl, hb⟩
      have B3 := hide (B2.out.trans (hb.mono B2.out.size)); clear hb
      go_wp2_with (go_at_call 19; refine (net_c a0 a cap0 cap fs l ride _ (FareS.sl_below B3.out HF'.out) (RefS.sl_below B3.out HL.out) JR.out).mono ?_)
      rintro e w4 ⟨rfl, hb⟩
      have B4 := hide (B3.out.trans (hb.mono B3.out.size)); clear hb
      go_wp2_with (go_at_call 20; refine (rnet_c a0 a cap0 cap fs l ride _ (FareS.sl_below B4.out HF'.out) (RefS.sl_below B4.out HL.out)).mono ?_)
      rintro e w5 ⟨rfl, hb⟩
      have B5 := hide (B4.out.trans (hb.mono B4.out.size)); clear hb
      go_wp2_with (go_at_call 11; refine (awake_c _).mono ?_)
      rintro e w6 ⟨rfl, hb⟩
      have B6 := hide (B5.out.trans (hb.mono B5.out.size)); clear hb
      go_wp2
      go_ret
      exact ⟨rfl, B6.out⟩

theorem lawChecks' (a0 : Option Addr) (cap0 : Nat) (fs : List FareS) (a : Option Addr) (cap : Nat) (l : List RefS) (w : World) (HF : FareS.sl w a0 cap0 fs) (H : RefS.sl w a cap l) :
    Calls Try.prog 3 #[.slice a0 fs.length cap0, .slice a l.length cap] w (Ret w (.bool true)) := lawChecks a0 a cap0 cap fs l w HF H
theorem lawAdds' (a0 : Option Addr) (cap0 : Nat) (fs : List FareS) (a : Option Addr) (cap : Nat) (l : List RefS) (r : RefS) (w : World) (HF : FareS.sl w a0 cap0 fs) (H : RefS.sl w a cap l) (hr : RefS.ok w r) :
    Calls Try.prog 4 #[.slice a0 fs.length cap0, .slice a l.length cap, .agg r.vals.toArray] w (Ret w (.bool true)) := lawAdds a0 a cap0 cap fs l r w HF H hr
theorem lawLeft' (a0 : Option Addr) (cap0 : Nat) (fs : List FareS) (a : Option Addr) (cap : Nat) (l : List RefS) (ride i : Int) (w : World) (HF : FareS.sl w a0 cap0 fs) (H : RefS.sl w a cap l) (jr : I64 ride) (ji : I64 i) :
    Calls Try.prog 5 #[.slice a0 fs.length cap0, .slice a l.length cap, .int .i64 ride, .int .i64 i] w (Ret w (.bool true)) := lawLeft a0 a cap0 cap fs l ride i w HF H jr ji
end Go.Proofs.Ytcnnffbpdemoiaa
