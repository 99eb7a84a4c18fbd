import Derived.Test.YtcnnffbpdemoiaaWa
import Derived.Test.YtcnnffbpdemoiaaPm
import Derived.StillTailTactics
namespace Go.Proofs.Ytcnnffbpdemoiaa
open Go.RowKit
set_option linter.unusedVariables false

set_option maxRecDepth 100000 in
set_option maxHeartbeats 4000000 in
theorem most_bad (a0 a : Option Addr) (cap0 cap : Nat) (fs : List FareS) (l : List RefS) (id ride item amount : Int) (w : World) (HF : FareS.sl w a0 cap0 fs) (hbad : fewL fs = false ∨ (fewL fs = true ∧ (60 : Int) < l.length) ∨ (fewL fs = true ∧ (l.length : Int) ≤ 60 ∧ oneBad ⟨id, ride, item, amount⟩ = true)) :
    Calls Try.prog 7 #[.slice a0 fs.length cap0, .slice a l.length cap, .agg #[.int .i64 id, .int .i64 ride, .int .i64 item, .int .i64 amount]] w (Ret w (.bool true)) := by
  simp only [oneBad, Bool.or_eq_true, decide_eq_true_eq] at hbad
  have H' : fewL fs = false ∨ (fewL fs = true ∧ (60 : Int) < l.length) ∨ (fewL fs = true ∧ (l.length : Int) ≤ 60 ∧ id < 1) ∨ (fewL fs = true ∧ (l.length : Int) ≤ 60 ∧ 1 ≤ id ∧ 1000000 < id) ∨ (fewL fs = true ∧ (l.length : Int) ≤ 60 ∧ 1 ≤ id ∧ id ≤ 1000000 ∧ amount < 1) ∨ (fewL fs = true ∧ (l.length : Int) ≤ 60 ∧ 1 ≤ id ∧ id ≤ 1000000 ∧ 1 ≤ amount ∧ 1000000000000 < amount) := by
    rcases hbad with h | h | ⟨h1, h2, h3⟩
    · exact .inl h
    · exact .inr (.inl h)
    · by_cases c1 : id < 1
      · exact .inr (.inr (.inl ⟨h1, h2, c1⟩))
      · by_cases c2 : 1000000 < id
        · exact .inr (.inr (.inr (.inl ⟨h1, h2, by omega, c2⟩)))
        · by_cases c3 : amount < 1
          · exact .inr (.inr (.inr (.inr (.inl ⟨h1, h2, by omega, by omega, c3⟩))))
          · exact .inr (.inr (.inr (.inr (.inr ⟨h1, h2, by omega, by omega, by omega, by omega⟩))))
  clear hbad
  have HF' := hide HF; clear HF
  have B0 := hide (show Below w.heap.size w (w.alloc (.cells #[.int .i64 id, .int .i64 ride, .int .i64 item, .int .i64 amount] 30)) from (Below.refl _ _).alloc (Nat.le_refl _) _)
  rcases H' with h | ⟨h1, h2⟩ | ⟨h1, h2, h3⟩ | ⟨h1, h2, h3, h4⟩ | ⟨h1, h2, h3, h4, h5⟩ | ⟨h1, h2, h3, h4, h5, h6⟩
  all_goals
    go_enter Try.func7, Try.ntmps7
    go_wp2_with fail
    refine (few_c a0 cap0 fs _ (FareS.sl_below B0.out HF'.out)).mono ?_
    rintro e w1 ⟨rfl, rfl⟩
    go_wp2_with fail
    refine (awake_c _).mono ?_
    rintro e w2 ⟨rfl, hb⟩
    have HB := hide (B0.out.trans (hb.mono (by simp))); clear hb
    go_wp2
    go_ret
    exact ⟨rfl, HB.out⟩

set_option maxRecDepth 100000 in
set_option maxHeartbeats 8000000 in
theorem most_good (a0 a : Option Addr) (cap0 cap : Nat) (fs : List FareS) (l : List RefS) (id ride item amount : Int) (w : World) (HF : FareS.sl w a0 cap0 fs) (H : RefS.sl w a cap l) (hr : RefS.ok w ⟨id, ride, item, amount⟩)
    (hfew : fewL fs = true) (hl : (l.length : Int) ≤ 60) (hone : oneBad ⟨id, ride, item, amount⟩ = false) :
    Calls Try.prog 7 #[.slice a0 fs.length cap0, .slice a l.length cap, .agg #[.int .i64 id, .int .i64 ride, .int .i64 item, .int .i64 amount]] w (Ret w (.bool true)) := by
  have HL := hide H
  have HF' := hide HF; clear HF
  have HR := hide hr; clear hr
  have HONE := hide hone
  have HFEW := hide hfew; clear hfew
  simp only [oneBad, Bool.or_eq_false_iff, decide_eq_false_iff_not] at hone
  have g1 : 1 ≤ id := by omega
  have g2 : id ≤ 1000000 := by omega
  have g3 : 1 ≤ amount := by omega
  have g4 : amount ≤ 1000000000000 := by omega
  clear hone
  obtain ⟨-, -, -, hfs, -⟩ := H
  have HHFS := hide hfs; clear hfs
  have jr : I64 ride := HR.out.2.1
  have ji : I64 item := HR.out.2.2.1
  have JR := hide jr; have JI := hide ji; clear jr ji
  have B0 := hide (show Below w.heap.size w (w.alloc (.cells #[.int .i64 id, .int .i64 ride, .int .i64 item, .int .i64 amount] 30)) from (Below.refl _ _).alloc (Nat.le_refl _) _)
  go_enter Try.func7, Try.ntmps7
  go_wp2_with fail
  refine (few_c a0 cap0 fs _ (FareS.sl_below B0.out HF'.out)).mono ?_
  rintro e w1 ⟨rfl, rfl⟩
  rw [HFEW.out]
  go_wp2_with fail
  refine (left_c a0 a cap0 cap fs l ride item _ (FareS.sl_below B0.out HF'.out) (RefS.sl_below B0.out HL.out) JR.out JI.out).mono ?_
  rintro e w2 ⟨rfl, hb2⟩
  have hc2 := (bcell hb2).1
  have hs2 := hb2.size
  simp at hc2 hs2
  have hs0 : w.heap.size < w.heap.size + 1 := by omega
  have B2 := hide hb2; clear hb2
  generalize hLV : (leftL fs l ride item).1 = LV
  generalize hLE : (leftL fs l ride item).2 = LE
  have HLV := hide hLV; have HLE := hide hLE; clear hLV hLE
  go_wp2_with fail
  refine (net_c a0 a cap0 cap fs l ride _ (FareS.sl_below (B0.out.trans (B2.out.mono (by simp))) HF'.out) (RefS.sl_below (B0.out.trans (B2.out.mono (by simp))) HL.out) JR.out).mono ?_
  rintro e w3 ⟨rfl, hb3⟩
  have B3 := hide (B2.out.trans (hb3.mono B2.out.size)); clear hb3 hc2
  generalize hNV : (netL fs l ride).1 = NV
  have HNV := hide hNV; clear hNV
  go_wp2
  go_loopw [11] (fun i wr => ∃ k : Nat, k ≤ l.length ∧ i = .int .i64 k ∧ Hid (Below (w.alloc (.cells #[.int .i64 id, .int .i64 ride, .int .i64 item, .int .i64 amount] 30)).heap.size (w.alloc (.cells #[.int .i64 id, .int .i64 ride, .int .i64 item, .int .i64 amount] 30)) wr) ∧ Hid (∀ j (h : j < l.length), j < k → l[j].id ≠ id)) (fun i wr => l.length - (intOf i).toNat)
  case atStart => exact ⟨0, Nat.zero_le _, rfl, B3, fun _ _ h => absurd h (Nat.not_lt_zero _)⟩
  case round =>
    obtain ⟨k, hk, rfl, hb, hno⟩ := hrel
    obtain ⟨hc, hz⟩ := bcell hb.out
    have hs := hb.out.size
    simp at hc hz hs
    by_cases hlt : k < l.length
    · obtain ⟨b, o, rfl, hbw, hf⟩ := HHFS.out (by omega)
      obtain ⟨h0, h1, h2, h3⟩ := hf k hlt
      generalize hlk : l[k] = y at *
      have H3 := hide hlk; have H4 := hide hf; clear hlk hf
      have q1 : b < w.heap.size + 1 := by omega
      have hkl : (k : Int) < (l.length : Int) := by omega
      cases hid : (y.id == id)
      · go_wp2
        go_quiet (fail)
        go_wp2
        go_roundw
        case rel =>
          refine ⟨k+1, by omega, by go_num, below_drewN hb.out _, ?_⟩
          intro j h hj
          by_cases e : j = k
          · subst e; have := H3.out; simp only [this]; intro e'; simp [e'] at hid
          · exact hno j h (by omega)
        case measure => simp [intOf]; omega
      · have HID := hide hid
        go_wp2
        go_quiet (fail)
        go_wp2_with fail
        refine (awake_c _).mono ?_
        rintro e w5 ⟨rfl, hb5⟩
        have HB := hide ((B0.out.trans ((below_drewN hb.out nq).mono (by simp))).trans (hb5.mono (by show _ ≤ wr.heap.size; omega))); clear hb5
        go_wp2
        go_ret
        exact ⟨rfl, HB.out⟩
    · obtain rfl : k = l.length := by omega
      have hno' := hide (show ∀ y ∈ l, y.id ≠ id by
        intro y hy
        obtain ⟨j, hj, rfl⟩ := List.getElem_of_mem hy
        exact hno.out j hj hj)
      clear hno
      have HBW := hide (B0.out.trans (hb.out.mono (by simp)))
      go_wp2_with fail
      refine (add_c a0 a cap0 cap fs l ⟨id, ride, item, amount⟩ _ (FareS.sl_below HBW.out HF'.out) (RefS.sl_below HBW.out HL.out) (RefS.ok_below HBW.out HR.out) (by omega)).mono ?_
      intro e w5 hadd
      have hb5 : Below wr.heap.size wr w5 := by obtain ⟨_, _, hb, _⟩ := hadd; exact hb
      have hc5 := (bcell hb5).1
      have hs5 := hb5.size
      have q0 : w.heap.size < wr.heap.size := by omega
      have B5 := hide (HBW.out.trans (hb5.mono HBW.out.size)); clear hb5
      by_cases hLE0 : LE = 0
      · obtain ⟨m1, m2, m3⟩ := most_iff HF'.out (r := ⟨id, ride, item, amount⟩) (by omega) HONE.out hno'.out (by rw [HLE.out]; exact hLE0)
        simp only [HLV.out, HNV.out] at m1 m2 m3
        have HLE0 := hide hLE0; subst hLE0
        rcases m3 with ⟨n1, n2, n3, n4⟩ | ⟨n1, n2⟩
        · obtain ⟨b5, c5, rfl, -, hl5⟩ := hadd.zero n1
          have L5 := hide hl5; clear hl5 hadd n1
          obtain ⟨l2, hl2⟩ : ∃ l2, l2 = l ++ [(⟨id, ride, item, amount⟩ : RefS)] := ⟨_, rfl⟩
          rw [← hl2] at L5 n3 n4 ⊢
          have E1 := hide (show l2.length = l.length + 1 by rw [hl2]; simp)
          have E2 := hide (show ∃ h : l.length < l2.length, l2[l.length] = (⟨id, ride, item, amount⟩ : RefS) by subst hl2; exact ⟨by simp, by simp⟩)
          clear hl2
          have N3 := hide n3; have N4 := hide n4; clear n3 n4
          go_wp2_with fail
          refine (left_c a0 _ cap0 c5 fs l2 ride item _ (FareS.sl_below B5.out HF'.out) L5.out JR.out JI.out).mono ?_
          rintro e w6 ⟨rfl, hb6⟩
          rw [N3.out]
          have hc6 := (bcell hb6).1
          have hs6 := hb6.size
          have q1 : w.heap.size < w5.heap.size := by omega
          have B6 := hide (B5.out.trans (hb6.mono B5.out.size)); have L6 := hide (RefS.sl_below hb6 L5.out); clear hb6
          go_wp2_with fail
          refine (net_c a0 _ cap0 c5 fs l2 ride _ (FareS.sl_below B6.out HF'.out) L6.out JR.out).mono ?_
          rintro e w7 ⟨rfl, hb7⟩
          rw [N4.out]
          have hc7 := (bcell hb7).1
          have hs7 := hb7.size
          have q2 : w.heap.size < w6.heap.size := by omega
          have q3 : w.heap.size < w7.heap.size := by omega
          have B7 := hide (B6.out.trans (hb7.mono B6.out.size)); have L7 := hide (RefS.sl_below hb7 L6.out); clear hb7
          obtain ⟨hll, hle⟩ := E2.out
          obtain ⟨bb, oo, hbo, hbb, hcell⟩ := L7.out.2.2.2.1 (by omega)
          obtain ⟨y0, y1, y2, y3⟩ := hcell _ hll
          rw [hle] at y0 y1 y2 y3
          cases hbo
          simp only [Nat.zero_add] at y0 y1 y2 y3
          clear hcell hle
          have e1 : ((l2.length : Nat) : Int) = (l.length : Int) + 1 := by have := E1.out; omega
          have e2 : (l.length : Int) < (l2.length : Int) := by omega
          have E3 := hide e1; clear e1
          go_wp2
          have u4 : ((l2.length : Int) == (l.length : Int) + 1) = true := by rw [E3.out]; simp
          have u1 : IntKind.i64.wrap (LV - amount) = LV - amount := IntWalk.i64_in _ (by omega)
          have u2 : IntKind.i64.wrap (NV - amount) = wrap64 (NV - amount) := IntWalk.i64_left _
          have u3 : IntKind.i64.wrap ((l.length : Int) + 1) = (l.length : Int) + 1 := IntWalk.i64_in _ (by omega)
          go_still_tail 40, (by kernel_rfl)
          clear u1 u2 u3 u4
          change wpList _ _ _ _ _ w7.drew
          have B7' := hide (show Below w.heap.size w w7.drew from B7.out.drew)
          generalize w7.drew = w8 at *
          go_wp2_with fail
          refine (awake_c _).mono ?_
          rintro e w9 ⟨rfl, hb9⟩
          have B9 := hide (B7'.out.trans (hb9.mono B7'.out.size)); clear hb9
          go_wp2
          go_ret
          exact ⟨rfl, B9.out⟩
        · obtain ⟨rfl, -⟩ := hadd.bad (by rw [n1]; decide)
          rw [n1]
          clear hadd n1
          go_wp2_with fail
          refine (awake_c _).mono ?_
          rintro e w6 ⟨rfl, hb6⟩
          have B6 := hide (B5.out.trans (hb6.mono B5.out.size)); clear hb6
          go_wp2
          go_ret
          exact ⟨rfl, B6.out⟩
      · have n1 := most_err HONE.out (show (leftL fs l (RefS.mk id ride item amount).ride (RefS.mk id ride item amount).item).2 ≠ 0 by rw [HLE.out]; exact hLE0)
        obtain ⟨rfl, -⟩ := hadd.bad n1
        clear hadd
        generalize addL fs l ⟨id, ride, item, amount⟩ = AL at *
        have c1 : (LE != 0) = true := by simpa using hLE0
        have c2 : (AL != 0) = true := by simpa using n1
        clear hLE0 n1
        go_wp2_with fail
        refine (awake_c _).mono ?_
        rintro e w6 ⟨rfl, hb6⟩
        have B6 := hide (B5.out.trans (hb6.mono B5.out.size)); clear hb6
        go_wp2
        go_ret
        exact ⟨rfl, B6.out⟩

theorem lawMost' (a0 : Option Addr) (cap0 : Nat) (fs : List FareS) (a : Option Addr) (cap : Nat) (l : List RefS) (r : RefS) (w : World) (HF : FareS.sl w a0 cap0 fs) (H : RefS.sl w a cap l) (hr : RefS.ok w r) :
    Calls Try.prog 7 #[.slice a0 fs.length cap0, .slice a l.length cap, .agg r.vals.toArray] w (Ret w (.bool true)) := by
  obtain ⟨id, ride, item, amount⟩ := r
  by_cases c1 : fewL fs = false
  · exact most_bad a0 a cap0 cap fs l id ride item amount w HF (.inl c1)
  have c1' : fewL fs = true := by simpa using c1
  by_cases c2 : (60 : Int) < l.length
  · exact most_bad a0 a cap0 cap fs l id ride item amount w HF (.inr (.inl ⟨c1', c2⟩))
  by_cases c3 : oneBad ⟨id, ride, item, amount⟩ = true
  · exact most_bad a0 a cap0 cap fs l id ride item amount w HF (.inr (.inr ⟨c1', by omega, c3⟩))
  · exact most_good a0 a cap0 cap fs l id ride item amount w HF H hr c1' (by omega) (by simpa using c3)
end Go.Proofs.Ytcnnffbpdemoiaa
