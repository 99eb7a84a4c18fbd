import Derived.Test.YtcnnffbpdemoiaaW6
namespace Go.Proofs.Ytcnnffbpdemoiaa
open Go.RowKit
set_option linter.unusedVariables false

theorem ret2i {a b a' b' : Int} (h1 : a = a') (h2 : b = b') : Ending.returned (.tuple #[.int .i64 a, .int .i64 b]) = Ending.returned (.tuple #[.int .i64 a', .int .i64 b']) := by rw [h1, h2]

def leftL (fs : List FareS) (l : List RefS) (ride i : Int) : Int × Int :=
  if checkL fs l ≠ 0 then (0, checkL fs l) else match itemL fs ride i with
    | none => (0, 7)
    | some (f, x) => if x.amount ≤ 0 ∨ f.total ≤ sumR l ride then (0, 0) else (max 0 (min (wrap64 (x.amount - sumI l ride i)) (wrap64 (f.total - sumR l ride))), 0)
def rleftL (fs : List FareS) (l : List RefS) (ride i : Int) : Int × Int :=
  if checkL fs l ≠ 0 then (0, checkL fs l) else match itemL fs ride i with
    | none => (0, 7)
    | some (f, x) => if x.amount ≤ 0 ∨ f.total ≤ 0 then (0, 0) else (min (wrap64 (x.amount - sumI l ride i)) (wrap64 (f.total - sumR l ride)), 0)
def netL (fs : List FareS) (l : List RefS) (ride : Int) : Int × Int :=
  if checkL fs l ≠ 0 then (0, checkL fs l) else match findL fs ride with
    | none => (0, 7)
    | some f => (wrap64 (f.total - sumR l ride), 0)

set_option maxHeartbeats 2000000 in
theorem left_c (a0 a : Option Addr) (cap0 cap : Nat) (fs : List FareS) (l : List RefS) (ride i : Int) (w : World) (HF : FareS.sl w a0 cap0 fs) (H : RefS.sl w a cap l) (jr : I64 ride) (ji : I64 i) :
    Calls Try.prog 17 #[.slice a0 fs.length cap0, .slice a l.length cap, .int .i64 ride, .int .i64 i] w (Ret w (.tuple #[.int .i64 (leftL fs l ride i).1, .int .i64 (leftL fs l ride i).2])) := by
  have HL := hide H; clear H
  have HF' := hide HF; clear HF
  have JR := hide jr; have JI := hide ji; clear jr ji
  go_enter Try.func17, Try.ntmps17
  go_wp2_with (go_at_call 12; refine (check_c a0 a cap0 cap fs l _ HF'.out HL.out).mono ?_)
  rintro e w1 ⟨rfl, hb⟩
  have hs := hb.size
  have HB := hide hb; clear hb
  generalize hE : checkL fs l = E at *
  have HE := hide hE; clear hE
  cases hE0 : (E != 0)
  · have h0 := hide (show checkL fs l = 0 by rw [HE.out]; simpa using hE0)
    go_wp2_with (go_at_call 25; refine (item_c a0 cap0 fs ride i _ ?_).mono ?_)
    · exact FareS.sl_below HB.out HF'.out
    · rintro e w2 ⟨rfl, hb2⟩
      have hs2 := hb2.size
      have HB2 := hide (HB.out.trans (hb2.mono hs)); clear hb2
      cases hit : itemL fs ride i with
      | none =>
        have hV := hide (show leftL fs l ride i = (0, 7) by simp [leftL, h0.out, hit])
        clear hit
        simp only [itemV]
        go_wp2
        go_ret2
        refine ⟨by rw [hV.out]; rfl, ?_⟩
        repeat (first | with_reducible exact HB2.out | with_reducible refine Below.setCell ?_ ?_ _ | with_reducible refine Below.alloc ?_ ?_ _ | omega | (simp <;> omega))
      | some fx =>
        obtain ⟨f, x⟩ := fx
        have hV := hide (show leftL fs l ride i = if x.amount ≤ 0 ∨ f.total ≤ sumR l ride then (0, 0) else (max 0 (min (wrap64 (x.amount - sumI l ride i)) (wrap64 (f.total - sumR l ride))), 0) by simp [leftL, h0.out, hit])
        clear hit
        simp only [itemV]
        go_wp2_with (go_at_call 24; refine (sums_c a cap l _ ?_).mono ?_)
        · refine RefS.sl_below ?_ HL.out
          repeat (first | with_reducible exact HB2.out | with_reducible refine Below.setCell ?_ ?_ _ | with_reducible refine Below.alloc ?_ ?_ _ | omega | (simp <;> omega))
        · rintro e w3 ⟨rfl, hb3, hsum, hn3⟩
          have hs3 := hb3.size
          simp at hs3
          obtain ⟨hc, hz⟩ := bcell hb3
          simp at hc hz
          have HB3 := hide (((HB2.out.alloc (by omega) _).alloc (by simp; omega) _).trans (hb3.mono (by simp; omega))); clear hb3
          obtain ⟨n, m1, m2, g1, g2, g3⟩ := hsum
          obtain ⟨kl, hkl⟩ := key55 JR.out JI.out
          have k1 : w2.heap.size < w2.heap.size + 1 + 1 := by omega
          have k2 : w2.heap.size + 1 < w2.heap.size + 1 + 1 := by omega
          have q1 := g3.1 ride i
          have q2 := g3.2 ride
          change (m1 (.agg #[.int .i64 ride, .int .i64 i])).getD (.int .i64 0) = _ at q1
          have hlk1 := g1.drew.look false law55 Try.underlying49 (zero3 _) hkl
          have hlk2 := g2.drew.look false law3 Try.underlying50 (zero3 _) (key3 JR.out)
          have hlk3 := g2.look false law3 Try.underlying50 (zero3 _) (key3 JR.out)
          rw [q1] at hlk1
          rw [q2] at hlk2 hlk3
          simp only [if_false, Bool.false_eq_true] at hlk1 hlk2 hlk3
          clear q1 q2 g1 g2 g3 hkl
          generalize hsI : sumI l ride i = sI at *
          generalize hsR : sumR l ride = sR at *
          have SI := hide hsI; clear hsI
          have SR := hide hsR; clear hsR
          simp at hlk1 hlk2 hlk3
          by_cases c1 : x.amount ≤ 0
          · have hV2 := hide (show leftL fs l ride i = (0, 0) by rw [hV.out]; simp [c1])
            have c1' : decide (x.amount ≤ 0) = true := by simpa using c1
            go_wp2
            go_ret2
            exact ⟨by rw [hV2.out]; rfl, HB3.out⟩
          · have c1' : 0 < x.amount := by omega
            by_cases c2 : f.total ≤ sR
            · have hV2 := hide (show leftL fs l ride i = (0, 0) by rw [hV.out]; simp [c2])
              go_wp2
              go_ret2
              exact ⟨by rw [hV2.out]; rfl, HB3.out⟩
            · have c2' : sR < f.total := by omega
              have hV2 := hide (show leftL fs l ride i = (max 0 (min (wrap64 (x.amount - sI)) (wrap64 (f.total - sR))), 0) by rw [hV.out]; simp [c1, c2])
              clear c1 c2
              go_wp2
              go_region
              all_goals
                go_wp2
                all_goals
                  go_ret2
                  refine ⟨?_, HB3.out.drew⟩
                  rw [hV2.out]
                  exact ret2i (by omega) rfl
  · have h0 := hide (show checkL fs l ≠ 0 by rw [HE.out]; simpa using hE0)
    have hV := hide (show leftL fs l ride i = (0, E) by rw [leftL, if_pos h0.out, HE.out])
    go_wp2
    go_ret2
    exact ⟨by rw [hV.out]; rfl, HB.out⟩

set_option maxHeartbeats 2000000 in
theorem net_c (a0 a : Option Addr) (cap0 cap : Nat) (fs : List FareS) (l : List RefS) (ride : Int) (w : World) (HF : FareS.sl w a0 cap0 fs) (H : RefS.sl w a cap l) (jr : I64 ride) :
    Calls Try.prog 19 #[.slice a0 fs.length cap0, .slice a l.length cap, .int .i64 ride] w (Ret w (.tuple #[.int .i64 (netL fs l ride).1, .int .i64 (netL fs l ride).2])) := by
  have HL := hide H; clear H
  have HF' := hide HF; clear HF
  have JR := hide jr; clear jr
  go_enter Try.func19, Try.ntmps19
  go_wp2_with (go_at_call 12; refine (check_c a0 a cap0 cap fs l _ HF'.out HL.out).mono ?_)
  rintro e w1 ⟨rfl, hb⟩
  have hs := hb.size
  have HB := hide hb; clear hb
  generalize hE : checkL fs l = E at *
  have HE := hide hE; clear hE
  cases hE0 : (E != 0)
  · have h0 := hide (show checkL fs l = 0 by rw [HE.out]; simpa using hE0)
    go_wp2_with (go_at_call 30; refine (find_c a0 cap0 fs ride _ ?_).mono ?_)
    · exact FareS.sl_below HB.out HF'.out
    · rintro e w2 ⟨rfl, hb2⟩
      have hs2 := hb2.size
      have HB2 := hide (HB.out.trans (hb2.mono hs)); clear hb2
      cases hit : findL fs ride with
      | none =>
        have hV := hide (show netL fs l ride = (0, 7) by simp [netL, h0.out, hit])
        clear hit
        simp only [findV]
        go_wp2
        go_ret2
        refine ⟨by rw [hV.out]; rfl, ?_⟩
        repeat (first | with_reducible exact HB2.out | with_reducible refine Below.setCell ?_ ?_ _ | with_reducible refine Below.alloc ?_ ?_ _ | omega | (simp <;> omega))
      | some f =>
        have hV := hide (show netL fs l ride = (wrap64 (f.total - sumR l ride), 0) by simp [netL, h0.out, hit])
        clear hit
        simp only [findV]
        go_wp2_with (go_at_call 24; refine (sums_c a cap l _ ?_).mono ?_)
        · refine RefS.sl_below ?_ HL.out
          repeat (first | with_reducible exact HB2.out | with_reducible refine Below.setCell ?_ ?_ _ | with_reducible refine Below.alloc ?_ ?_ _ | omega | (simp <;> omega))
        · rintro e w3 ⟨rfl, hb3, hsum, hn3⟩
          have hs3 := hb3.size
          simp at hs3
          obtain ⟨hc, hz⟩ := bcell hb3
          simp at hc hz
          have HB3 := hide ((HB2.out.alloc (by omega) _).trans (hb3.mono (by simp; omega))); clear hb3
          obtain ⟨n, m1, m2, g1, g2, g3⟩ := hsum
          have k1 : w2.heap.size < w2.heap.size + 1 := by omega
          have q2 := g3.2 ride
          have hlk3 := g2.look false law3 Try.underlying50 (zero3 _) (key3 JR.out)
          rw [q2] at hlk3
          simp only [if_false, Bool.false_eq_true] at hlk3
          clear q2 g1 g2 g3
          generalize hsR : sumR l ride = sR at *
          have SR := hide hsR; clear hsR
          simp at hlk3
          go_wp2
          go_ret2
          exact ⟨by rw [hV.out]; rfl, HB3.out⟩
  · have h0 := hide (show checkL fs l ≠ 0 by rw [HE.out]; simpa using hE0)
    have hV := hide (show netL fs l ride = (0, E) by rw [netL, if_pos h0.out, HE.out])
    go_wp2
    go_ret2
    exact ⟨by rw [hV.out]; rfl, HB.out⟩

set_option maxHeartbeats 2000000 in
theorem rnet_c (a0 a : Option Addr) (cap0 cap : Nat) (fs : List FareS) (l : List RefS) (ride : Int) (w : World) (HF : FareS.sl w a0 cap0 fs) (H : RefS.sl w a cap l) :
    Calls Try.prog 20 #[.slice a0 fs.length cap0, .slice a l.length cap, .int .i64 ride] w (Ret w (.tuple #[.int .i64 (netL fs l ride).1, .int .i64 (netL fs l ride).2])) := by
  have HL := hide H; clear H
  have HF' := hide HF; clear HF
  go_enter Try.func20, Try.ntmps20
  go_wp2_with (go_at_call 13; refine (rcheck_c a0 a cap0 cap fs l _ HF'.out HL.out).mono ?_)
  rintro e w1 ⟨rfl, hb⟩
  have hs := hb.size
  have HB := hide hb; clear hb
  generalize hE : checkL fs l = E at *
  have HE := hide hE; clear hE
  cases hE0 : (E != 0)
  · have h0 := hide (show checkL fs l = 0 by rw [HE.out]; simpa using hE0)
    go_wp2_with (go_at_call 27; refine (found_c a0 cap0 fs ride _ ?_).mono ?_)
    · exact FareS.sl_below HB.out HF'.out
    · rintro e w2 ⟨rfl, hb2⟩
      have hs2 := hb2.size
      have HB2 := hide (HB.out.trans (hb2.mono hs)); clear hb2
      cases hit : findL fs ride with
      | none =>
        have hV := hide (show netL fs l ride = (0, 7) by simp [netL, h0.out, hit])
        clear hit
        simp only [findV]
        go_wp2
        go_ret2
        refine ⟨by rw [hV.out]; rfl, ?_⟩
        repeat (first | with_reducible exact HB2.out | with_reducible refine Below.setCell ?_ ?_ _ | with_reducible refine Below.alloc ?_ ?_ _ | omega | (simp <;> omega))
      | some f =>
        have hV := hide (show netL fs l ride = (wrap64 (f.total - sumR l ride), 0) by simp [netL, h0.out, hit])
        clear hit
        simp only [findV]
        go_wp2_with (go_at_call 28; refine (spent_c a cap l ride 0 _ ?_).mono ?_)
        · refine RefS.sl_below ?_ HL.out
          repeat (first | with_reducible exact HB2.out | with_reducible refine Below.setCell ?_ ?_ _ | with_reducible refine Below.alloc ?_ ?_ _ | omega | (simp <;> omega))
        · rintro e w3 ⟨rfl, rfl⟩
          generalize hsR : sumR l ride = sR at *
          have SR := hide hsR; clear hsR
          go_wp2
          go_ret2
          refine ⟨by rw [hV.out]; rfl, ?_⟩
          repeat (first | with_reducible exact HB2.out | with_reducible refine Below.setCell ?_ ?_ _ | with_reducible refine Below.alloc ?_ ?_ _ | omega | (simp <;> omega))
  · have h0 := hide (show checkL fs l ≠ 0 by rw [HE.out]; simpa using hE0)
    have hV := hide (show netL fs l ride = (0, E) by rw [netL, if_pos h0.out, HE.out])
    go_wp2
    go_ret2
    exact ⟨by rw [hV.out]; rfl, HB.out⟩

set_option maxHeartbeats 2000000 in
theorem rleft_c (a0 a : Option Addr) (cap0 cap : Nat) (fs : List FareS) (l : List RefS) (ride i : Int) (w : World) (HF : FareS.sl w a0 cap0 fs) (H : RefS.sl w a cap l) :
    Calls Try.prog 18 #[.slice a0 fs.length cap0, .slice a l.length cap, .int .i64 ride, .int .i64 i] w (Ret w (.tuple #[.int .i64 (rleftL fs l ride i).1, .int .i64 (rleftL fs l ride i).2])) := by
  have HL := hide H; clear H
  have HF' := hide HF; clear HF
  go_enter Try.func18, Try.ntmps18
  go_wp2_with (go_at_call 13; refine (rcheck_c a0 a cap0 cap fs l _ HF'.out HL.out).mono ?_)
  rintro e w1 ⟨rfl, hb⟩
  have hs := hb.size
  have HB := hide hb; clear hb
  generalize hE : checkL fs l = E at *
  have HE := hide hE; clear hE
  cases hE0 : (E != 0)
  · have h0 := hide (show checkL fs l = 0 by rw [HE.out]; simpa using hE0)
    go_wp2_with (go_at_call 29; refine (amount_c a0 cap0 fs ride i _ ?_).mono ?_)
    · exact FareS.sl_below HB.out HF'.out
    · rintro e w2 ⟨rfl, hb2⟩
      have hs2 := hb2.size
      have HB2 := hide (HB.out.trans (hb2.mono hs)); clear hb2
      cases hit : itemL fs ride i with
      | none =>
        have hV := hide (show rleftL fs l ride i = (0, 7) by simp [rleftL, h0.out, hit])
        clear hit
        simp only [amountV]
        go_wp2
        go_ret2
        exact ⟨by rw [hV.out]; rfl, HB2.out⟩
      | some fx =>
        obtain ⟨f, x⟩ := fx
        have hfind := hide (itemL_some hit).1
        have hV := hide (show rleftL fs l ride i = if x.amount ≤ 0 ∨ f.total ≤ 0 then (0, 0) else (min (wrap64 (x.amount - sumI l ride i)) (wrap64 (f.total - sumR l ride)), 0) by simp [rleftL, h0.out, hit])
        clear hit
        simp only [amountV]
        go_wp2_with (go_at_call 27; refine (found_c a0 cap0 fs ride _ ?_).mono ?_)
        · exact FareS.sl_below HB2.out HF'.out
        · rintro e w3 ⟨rfl, hb3⟩
          rw [hfind.out]
          have hs3 := hb3.size
          have HB3 := hide (HB2.out.trans (hb3.mono (by omega))); clear hb3
          simp only [findV]
          go_wp2_with (go_at_call 28; refine (spent_c a cap l ride i _ ?_).mono ?_)
          · refine RefS.sl_below ?_ HL.out
            repeat (first | with_reducible exact HB3.out | with_reducible refine Below.setCell ?_ ?_ _ | with_reducible refine Below.alloc ?_ ?_ _ | omega | (simp <;> omega))
          · rintro e w4 ⟨rfl, rfl⟩
            generalize hsI : sumI l ride i = sI at *
            generalize hsR : sumR l ride = sR at *
            have SI := hide hsI; clear hsI
            have SR := hide hsR; clear hsR
            by_cases c1 : x.amount ≤ 0
            · have hV2 := hide (show rleftL fs l ride i = (0, 0) by rw [hV.out]; simp [c1])
              have c1' : decide (x.amount ≤ 0) = true := by simpa using c1
              go_wp2
              go_ret2
              refine ⟨by rw [hV2.out]; rfl, ?_⟩
              repeat (first | with_reducible exact HB3.out | with_reducible refine Below.setCell ?_ ?_ _ | with_reducible refine Below.alloc ?_ ?_ _ | omega | (simp <;> omega))
            · have c1' : 0 < x.amount := by omega
              by_cases c2 : f.total ≤ 0
              · have hV2 := hide (show rleftL fs l ride i = (0, 0) by rw [hV.out]; simp [c2])
                go_wp2
                go_ret2
                refine ⟨by rw [hV2.out]; rfl, ?_⟩
                repeat (first | with_reducible exact HB3.out | with_reducible refine Below.setCell ?_ ?_ _ | with_reducible refine Below.alloc ?_ ?_ _ | omega | (simp <;> omega))
              · have c2' : 0 < f.total := by omega
                have hV2 := hide (show rleftL fs l ride i = (min (wrap64 (x.amount - sI)) (wrap64 (f.total - sR)), 0) by rw [hV.out]; simp [c1, c2])
                clear c1 c2
                go_wp2
                all_goals
                  go_ret2
                  refine ⟨?_, ?_⟩
                  · rw [hV2.out]
                    exact ret2i (by omega) rfl
                  · repeat (first | with_reducible exact HB3.out | with_reducible refine Below.setCell ?_ ?_ _ | with_reducible refine Below.alloc ?_ ?_ _ | omega | (simp <;> omega))
  · have h0 := hide (show checkL fs l ≠ 0 by rw [HE.out]; simpa using hE0)
    have hV := hide (show rleftL fs l ride i = (0, E) by rw [rleftL, if_pos h0.out, HE.out])
    go_wp2
    go_ret2
    exact ⟨by rw [hV.out]; rfl, HB.out⟩
end Go.Proofs.Ytcnnffbpdemoiaa
