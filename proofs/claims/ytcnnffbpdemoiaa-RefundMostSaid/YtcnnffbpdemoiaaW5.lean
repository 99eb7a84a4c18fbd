import Derived.Test.YtcnnffbpdemoiaaW4
namespace Go.Proofs.Ytcnnffbpdemoiaa
open Go.RowKit
set_option linter.unusedVariables false

theorem itemL_some {fs : List FareS} {ride i : Int} {f : FareS} {x : ItemS} (h : itemL fs ride i = some (f, x)) : findL fs ride = some f ∧ 0 ≤ i ∧ ∃ hi : i.toNat < f.items.length, f.items[i.toNat] = x := by
  unfold itemL at h
  obtain ⟨g, hg, h⟩ := Option.bind_eq_some_iff.1 h
  split at h
  · cases h
  · obtain ⟨y, hy, h⟩ := Option.map_eq_some_iff.1 h
    cases h
    obtain ⟨h1, h2⟩ := List.getElem?_eq_some_iff.1 hy
    exact ⟨hg, by omega, h1, h2⟩

def amountV (r : Option (FareS × ItemS)) : Value := match r with
  | some (f, x) => .tuple #[.int .i64 x.amount, .bool true]
  | none => .tuple #[.int .i64 0, .bool false]

set_option maxHeartbeats 800000 in
theorem amount_c (a : Option Addr) (cap : Nat) (fs : List FareS) (ride i : Int) (w : World) (H : FareS.sl w a cap fs) :
    Calls Try.prog 29 #[.slice a fs.length cap, .int .i64 ride, .int .i64 i] w (Ret w (amountV (itemL fs ride i))) := by
  have HH := hide H
  cases hf : findL fs ride with
  | none =>
    have hV := hide (show itemL fs ride i = none by simp only [itemL, hf, Option.bind_none])
    have HF := hide hf; clear hf H
    go_enter Try.func29, Try.ntmps29
    go_wp2_with (go_at_call 27; refine (found_c a cap fs ride _ ?_).mono ?_)
    · exact HH.out
    · rintro e w1 ⟨rfl, hb⟩
      rw [HF.out]
      simp only [findV]
      have hs1 := hb.size
      have HB := hide hb; clear hb
      go_wp2
      go_ret2
      refine ⟨by rw [hV.out]; rfl, ?_⟩
      repeat (first | with_reducible exact HB.out | with_reducible refine Below.setCell ?_ ?_ _ | with_reducible refine Below.alloc ?_ ?_ _ | omega | (simp <;> omega))
  | some f =>
    obtain ⟨-, -, -, hx, -⟩ := (H.2.2.2.2 f (findL_mem hf)).2.2.1
    clear H
    by_cases hi : i < 0 ∨ (0 ≤ i ∧ (f.items.length : Int) ≤ i)
    · have hV := hide (show itemL fs ride i = none by
        simp only [itemL, hf, Option.bind_some]
        rcases hi with h | ⟨h1, h2⟩
        · rw [if_pos h]
        · rw [if_neg (by omega)]
          have : f.items[i.toNat]? = none := by rw [List.getElem?_eq_none_iff]; omega
          rw [this]; rfl)
      have HF := hide hf; clear hf
      rcases hi with hi | ⟨hi, hi2⟩
      all_goals
        go_enter Try.func29, Try.ntmps29
        go_wp2_with (go_at_call 27; refine (found_c a cap fs ride _ ?_).mono ?_)
        · exact HH.out
        · rintro e w1 ⟨rfl, hb⟩
          rw [HF.out]
          simp only [findV]
          have hs1 := hb.size
          have HB := hide hb; clear hb
          go_wp2
          go_ret2
          refine ⟨by rw [hV.out]; rfl, ?_⟩
          repeat (first | with_reducible exact HB.out | with_reducible refine Below.setCell ?_ ?_ _ | with_reducible refine Below.alloc ?_ ?_ _ | omega | (simp <;> omega))
    · obtain ⟨n, rfl⟩ := Int.eq_ofNat_of_zero_le (by omega : 0 ≤ i)
      have hn : n < f.items.length := by omega
      have hV := hide (show itemL fs ride n = some (f, f.items[n]) by simp [itemL, hf, hn])
      obtain ⟨b, o, ha, hbw, hx⟩ := hx (by omega)
      obtain ⟨h0, h1, h2⟩ := hx n hn
      obtain ⟨fr, fri, fa, fc, fit, ft⟩ := f
      simp only at ha hn h0 h1 h2 hi hV
      subst ha
      clear hx
      generalize hX : fit[n] = x at *
      have HF := hide hf; clear hf
      have HX := hide hX; clear hX
      have hi1 : (0 : Int) ≤ (n : Int) := by omega
      have hi2 : (n : Int) < (fit.length : Int) := by omega
      clear hi
      go_enter Try.func29, Try.ntmps29
      go_wp2_with (go_at_call 27; refine (found_c a cap fs ride _ ?_).mono ?_)
      · exact HH.out
      · rintro e w1 ⟨rfl, hb⟩
        rw [HF.out]
        simp only [findV]
        have hs1 := hb.size
        have hs2 : b < w1.heap.size := by omega
        obtain ⟨hc, hz⟩ := bcell hb
        have HB := hide hb; clear hb
        go_wp2
        go_ret2
        refine ⟨by rw [hV.out]; rfl, ?_⟩
        repeat (first | with_reducible exact HB.out | with_reducible refine Below.setCell ?_ ?_ _ | with_reducible refine Below.alloc ?_ ?_ _ | omega | (simp <;> omega))

set_option maxHeartbeats 800000 in
theorem rone_bad (a : Option Addr) (cap : Nat) (fs : List FareS) (id ride item amount : Int) (w : World) (H : oneBad ⟨id, ride, item, amount⟩ = true) :
    Calls Try.prog 26 #[.slice a fs.length cap, .agg #[.int .i64 id, .int .i64 ride, .int .i64 item, .int .i64 amount]] w (Ret w (.int .i64 1)) := by
  simp only [oneBad, Bool.or_eq_true, decide_eq_true_eq] at H
  have H' : id < 1 ∨ (1 ≤ id ∧ 1000000 < id) ∨ (1 ≤ id ∧ id ≤ 1000000 ∧ amount < 1) ∨ (1 ≤ id ∧ id ≤ 1000000 ∧ 1 ≤ amount ∧ 1000000000000 < amount) := by omega
  clear H
  rcases H' with h | ⟨h1, h2⟩ | ⟨h1, h2, h3⟩ | ⟨h1, h2, h3, h4⟩
  all_goals
    go_enter Try.func26, Try.ntmps26
    go_wp2
    go_ret
    refine ⟨rfl, ?_⟩
    repeat (first | with_reducible exact Below.refl _ _ | with_reducible refine Below.setCell ?_ ?_ _ | with_reducible refine Below.alloc ?_ ?_ _ | omega | (simp <;> omega))

set_option maxHeartbeats 800000 in
theorem rone_c (a : Option Addr) (cap : Nat) (fs : List FareS) (r : RefS) (w : World) (HF : FareS.sl w a cap fs) :
    Calls Try.prog 26 #[.slice a fs.length cap, .agg #[.int .i64 r.id, .int .i64 r.ride, .int .i64 r.item, .int .i64 r.amount]] w (Ret w (.int .i64 (oneL fs r))) := by
  obtain ⟨id, ride, item, amount⟩ := r
  by_cases H : oneBad ⟨id, ride, item, amount⟩ = true
  · simp only [oneL, if_pos H]; exact rone_bad a cap fs id ride item amount w H
  · have HB0 := hide H
    simp only [oneBad, Bool.not_eq_true, Bool.or_eq_false_iff, decide_eq_false_iff_not] at H
    obtain ⟨⟨⟨g1, g2⟩, g3⟩, g4⟩ := H
    have g1' : 1 ≤ id := by omega
    have g2' : id ≤ 1000000 := by omega
    have g3' : 1 ≤ amount := by omega
    have g4' : amount ≤ 1000000000000 := by omega
    clear g1 g2 g3 g4
    have HH := hide HF; clear HF
    go_enter Try.func26, Try.ntmps26
    go_wp2_with (go_at_call 29; refine (amount_c a cap fs ride item _ ?_).mono ?_)
    · exact FareS.sl_below ((Below.refl _ _).alloc (Nat.le_refl _) _) HH.out
    · rintro e w1 ⟨rfl, hb⟩
      obtain ⟨hc, hz⟩ := bcell hb
      have hs := hb.size
      simp at hs hc hz
      have hs0 : w.heap.size < w.heap.size + 1 := by omega
      have hs2 : w.heap.size < w1.heap.size := by omega
      have hB : Below w.heap.size w w1 := ((Below.refl _ _).alloc (Nat.le_refl _) _).trans (hb.mono (by simp))
      have HB := hide hB; clear hB
      cases hit : itemL fs ride item with
      | none =>
        have HV := hide (show oneL fs ⟨id, ride, item, amount⟩ = 7 by simp only [oneL, if_neg HB0.out, hit])
        clear hit
        simp only [amountV]
        go_wp2
        go_ret
        refine ⟨by rw [HV.out]; rfl, ?_⟩
        repeat (first | with_reducible exact HB.out | with_reducible refine Below.setCell ?_ ?_ _ | with_reducible refine Below.alloc ?_ ?_ _ | omega | (simp <;> omega))
      | some fx =>
        obtain ⟨f, x⟩ := fx
        obtain ⟨xk, xr, xa⟩ := x
        simp only [amountV]
        by_cases hx : xa ≤ 0
        · have HV := hide (show oneL fs ⟨id, ride, item, amount⟩ = 27 by simp only [oneL, if_neg HB0.out, hit, if_pos hx])
          clear hit
          go_wp2
          go_ret
          refine ⟨by rw [HV.out]; rfl, ?_⟩
          repeat (first | with_reducible exact HB.out | with_reducible refine Below.setCell ?_ ?_ _ | with_reducible refine Below.alloc ?_ ?_ _ | omega | (simp <;> omega))
        · have HV := hide (show oneL fs ⟨id, ride, item, amount⟩ = 0 by simp only [oneL, if_neg HB0.out, hit, if_neg hx])
          have hx' : 0 < xa := by omega
          clear hit hx
          go_wp2
          go_ret
          refine ⟨by rw [HV.out]; rfl, ?_⟩
          repeat (first | with_reducible exact HB.out | with_reducible refine Below.setCell ?_ ?_ _ | with_reducible refine Below.alloc ?_ ?_ _ | omega | (simp <;> omega))

theorem spent_q (a : Option Addr) (cap : Nat) (l : List RefS) (ride item : Int) (w : World) (H : RefS.sl w a cap l) :
    Calls Try.prog 28 #[.slice a l.length cap, .int .i64 ride, .int .i64 item] w (fun e w' => e = .returned (.tuple #[.int .i64 (sumI l ride item), .int .i64 (sumR l ride)]) ∧ w' = w) :=
  (spent_c a cap l ride item w H).mono fun _ _ ⟨h1, h2⟩ => ⟨h1, h2.symm⟩

set_option maxHeartbeats 2000000 in
theorem rcheck_c (a0 a : Option Addr) (cap0 cap : Nat) (fs : List FareS) (l : List RefS) (w : World) (HF : FareS.sl w a0 cap0 fs) (H : RefS.sl w a cap l) :
    Calls Try.prog 13 #[.slice a0 fs.length cap0, .slice a l.length cap] w (Ret w (.int .i64 (checkL fs l))) := by
  have HL := hide H
  obtain ⟨hl1, hl2, -, hfs, hok⟩ := H
  have hlen := Nat.le_trans hl1 hl2
  unfold maxLen at hlen
  clear hl1 hl2
  have HF' := hide HF; clear HF
  have HO := hide hok; clear hok
  by_cases h512 : 512 < l.length
  · have hV := hide (show checkL fs l = 8 by simp only [checkL, if_pos h512])
    have h' : (512 : Int) < (l.length : Int) := by omega
    go_enter Try.func13, Try.ntmps13
    go_wp2
    go_ret
    exact ⟨by rw [hV.out]; rfl, Below.refl _ _⟩
  have h' : (l.length : Int) ≤ 512 := by omega
  have H512 := hide h512; clear h512
  go_enter Try.func13, Try.ntmps13
  go_wp2
  -- the first loop: each refund by itself
  go_loopw [5] (fun i wr => ∃ k : Nat, k ≤ l.length ∧ i = .int .i64 k ∧ Below w.heap.size w wr ∧ Hid (∀ j (h : j < l.length), j < k → oneL fs l[j] = 0)) (fun i wr => l.length - (intOf i).toNat)
  case atStart => exact ⟨0, Nat.zero_le _, rfl, Below.refl _ _, fun _ _ h => absurd h (Nat.not_lt_zero _)⟩
  case round =>
    obtain ⟨k, hk, rfl, hb, hno⟩ := hrel
    obtain ⟨hc, hz⟩ := bcell hb
    have hs := hb.size
    by_cases hlt : k < l.length
    · obtain ⟨b, o, rfl, hbw, hf⟩ := hfs (by omega)
      obtain ⟨h0, h1, h2, h3⟩ := hf k hlt
      have hat := errL_at (fs := fs) hlt hno.out
      generalize hfk : l[k] = f at *
      have H2 := hide hf; clear hf
      have H3 := hide hfk; clear hfk
      have H4 := hide hat; clear hat
      have HB := hide hb; clear hb
      go_wp2_with (go_at_call 26; refine (rone_c a0 cap0 fs f _ ?_).mono ?_)
      · exact FareS.sl_below HB.out HF'.out
      · rintro e w1 ⟨rfl, hb1⟩
        have hs1 := hb1.size
        have hB1 : Below w.heap.size w w1 := HB.out.trans (hb1.mono (by omega))
        have HB1 := hide hB1; clear hB1 hb1
        generalize hE : oneL fs f = E at *
        have HE := hide hE; clear hE
        cases hE0 : (E != 0)
        · go_wp2
          go_roundw
          case rel =>
            refine ⟨k+1, by omega, by go_num, HB1.out, ?_⟩
            intro j h hj
            by_cases e : j = k
            · subst e; have := H3.out; simp only [this]; rw [HE.out]; simpa using hE0
            · exact hno j h (by omega)
          case measure => simp [intOf]; omega
        · have HE0 := hide hE0
          have hV := hide (show checkL fs l = E by
            have hne : E ≠ 0 := by simpa using HE0.out
            have := H4.out hne
            simp only [checkL, if_neg H512.out, this, if_pos hne])
          go_wp2
          go_ret
          exact ⟨by rw [hV.out]; rfl, HB1.out⟩
    · obtain rfl : k = l.length := by omega
      have hone := hno.out
      have herr := hide (errL_zero (fun j hj => hno.out j hj hj))
      clear hno
      have HONE := hide hone; clear hone
      have HB := hide hb; clear hb
      obtain ⟨w2, hw2⟩ : ∃ w2, w2 = wr := ⟨_, rfl⟩
      subst hw2
      go_wp2
      go_loopw [7] (fun i wr => ∃ k : Nat, k ≤ l.length ∧ i = .int .i64 k ∧ Hid (Below w.heap.size w wr) ∧ Hid ((l.take k).map (·.id)).Nodup) (fun i wr => l.length - (intOf i).toNat)
      case atStart => exact ⟨0, Nat.zero_le _, rfl, HB, List.nodup_nil⟩
      case round =>
        obtain ⟨k, hk, rfl, hb2, hnd⟩ := hrel
        by_cases hlt : k < l.length
        · obtain ⟨b, o, rfl, hbw, hf⟩ := hfs (by omega)
          obtain ⟨w3, hw3⟩ : ∃ w3, w3 = wr := ⟨_, rfl⟩
          subst hw3
          obtain ⟨g0, g1, g2, g3⟩ := hf k hlt
          have e1 := take_snoc l k hlt
          generalize hfk : l[k] = f at *
          have HFK := hide hfk; clear hfk
          have E1 := hide e1; clear e1
          go_wp2
          go_loopw [8] (fun i wr => ∃ j : Nat, j ≤ k ∧ i = .int .i64 j ∧ Hid (Below w.heap.size w wr) ∧ Hid (∀ i (h : i < l.length), i < j → l[i].id ≠ f.id)) (fun i wr => k - (intOf i).toNat)
          case atStart => exact ⟨0, Nat.zero_le _, rfl, hb2, fun _ _ h => absurd h (Nat.not_lt_zero _)⟩
          case round =>
            obtain ⟨j, hj, rfl, hb3, hno⟩ := hrel
            have hs3 := hb3.out.size
            obtain ⟨hc3, hz3⟩ := bcell hb3.out
            by_cases hjk : j < k
            · obtain ⟨h0, h1, h2, h3⟩ := hf j (by omega)
              generalize hgj : l[j] = g at *
              have HGJ := hide hgj; clear hgj
              have HF2 := hide hf; clear hf
              have hj1 : (j : Int) < (l.length : Int) := by omega
              have hk1 : (k : Int) < (l.length : Int) := by omega
              cases hid : (f.id == g.id)
              · go_wp2
                go_quiet (fail)
                go_wp2
                go_roundw
                case rel =>
                  refine ⟨j+1, by omega, by go_num, below_drewN hb3.out _, ?_⟩
                  intro i h hi
                  by_cases e : i = j
                  · subst e; have := HGJ.out; simp only [this]; intro e'; simp [e'] at hid
                  · exact hno i h (by omega)
                case measure => simp [intOf]; omega
              · have HID := hide hid
                have hV := hide (show checkL fs l = 6 by
                  have : ¬ (l.map (·.id)).Nodup := by
                    intro hn
                    have hp := List.pairwise_iff_getElem.1 hn j k (by simp; omega) (by simp; omega) hjk
                    simp only [List.getElem_map] at hp
                    rw [HGJ.out, HFK.out] at hp
                    have hfg : f.id = g.id := by simpa using HID.out
                    exact hp hfg.symm
                  simp only [checkL, if_neg H512.out, herr.out, ne_eq, not_true_eq_false, if_false, if_pos this])
                go_wp2
                go_quiet (fail)
                go_wp2
                go_ret
                exact ⟨by rw [hV.out]; rfl, below_drewN hb3.out _⟩
            · obtain rfl : j = k := by omega
              go_wp2
              go_roundw
              case rel =>
                refine ⟨j+1, by omega, by go_num, hb3, ?_⟩
                show ((l.take (j+1)).map (·.id)).Nodup
                rw [E1.out, List.map_append]
                refine nodup_snoc hnd.out ?_
                intro hm
                obtain ⟨y, hy, hye⟩ := List.mem_map.1 hm
                obtain ⟨i, hi, rfl⟩ := List.getElem_of_mem hy
                simp at hi
                rw [List.getElem_take] at hye
                exact hno.out i (by omega) (by omega) hye
              case measure => simp [intOf]; omega
        · obtain rfl : k = l.length := by omega
          rw [List.take_length] at hnd
          obtain ⟨w3, hw3⟩ : ∃ w3, w3 = wr := ⟨_, rfl⟩
          subst hw3
          go_wp2
          go_loopw [9] (fun i wr => ∃ k : Nat, k ≤ l.length ∧ i = .int .i64 k ∧ Hid (Below w.heap.size w wr) ∧ Hid (∀ j (h : j < l.length), j < k → amtBad fs l l[j] = false)) (fun i wr => l.length - (intOf i).toNat)
          case atStart => exact ⟨0, Nat.zero_le _, rfl, hb2, fun _ _ h => absurd h (Nat.not_lt_zero _)⟩
          case round =>
            obtain ⟨k, hk, rfl, hb5, hno⟩ := hrel
            obtain ⟨hc5, hz5⟩ := bcell hb5.out
            have hs5 := hb5.out.size
            by_cases hlt : k < l.length
            · obtain ⟨b, o, rfl, hbw, hf⟩ := hfs (by omega)
              obtain ⟨h0, h1, h2, h3⟩ := hf k hlt
              obtain ⟨g, x, hgx⟩ := one_zero (HONE.out k hlt hlt)
              have hbad : amtBad fs l l[k] = (decide (x.amount < sumI l l[k].ride l[k].item) || decide (g.total < sumR l l[k].ride)) := by simp only [amtBad, hgx]
              obtain ⟨hfind, hi0, hilen, hix⟩ := itemL_some hgx
              obtain ⟨-, -, -, hx, -⟩ := (HF'.out.2.2.2.2 g (findL_mem hfind)).2.2.1
              obtain ⟨ib, io, hia, hib, hx⟩ := hx (by omega)
              obtain ⟨x0, x1, x2⟩ := hx _ hilen
              rw [hix] at x0 x1 x2
              clear hx hgx
              generalize hfk : l[k] = f at *
              obtain ⟨it, hit⟩ := Int.eq_ofNat_of_zero_le hi0
              rw [hit] at x0 x1 x2
              have hit1 : (it : Int) < (g.items.length : Int) := by rw [hit] at hilen; omega
              have hit0 : (0 : Int) ≤ (it : Int) := by omega
              simp only [Int.toNat_natCast] at x0 x1 x2
              clear hix
              obtain ⟨id, ride, item, amount⟩ := f
              simp only at hit
              subst hit
              obtain ⟨gr, gri, ga, gc, git, gt⟩ := g
              simp only at hia hit1 x0 x1 x2 hbad hfind h0 h1 h2 h3
              subst hia
              have H2 := hide hf; clear hf
              have H3 := hide hfk; clear hfk
              have HBAD := hide hbad; clear hbad
              have HFIND := hide hfind; clear hfind hilen hi0
              have hkk : (k : Int) < (l.length : Int) := by omega
              have hb8 : b < wr.heap.size := by omega
              have hb7 : ib < wr.heap.size := by omega
              clear x0 x1
              go_wp2_with (go_at_call 27; refine (found_c a0 cap0 fs ride _ ?_).mono ?_)
              · exact FareS.sl_below hb5.out HF'.out
              · rintro e w6 ⟨rfl, hb6⟩
                rw [HFIND.out]
                simp only [findV]
                have hs6 := hb6.size
                have hB6 := hide (hb5.out.trans (hb6.mono hs5))
                obtain ⟨hc6, hz6⟩ := bcell hb6
                have hk1 : b < w6.heap.size := by omega
                have hk2 : ib < w6.heap.size := by omega
                clear hb6
                go_wp2
                go_quiet ((go_at_call 28; exact Calls.quiet_of_same (spent_q _ cap l ride it _ (RefS.sl_below (below_drewN (hB6.out.alloc (by omega) _) _) HL.out))))
                generalize hsI : sumI l ride it = sI at *
                generalize hsR : sumR l ride = sR at *
                have SI := hide hsI; clear hsI
                have SR := hide hsR; clear hsR
                by_cases c1 : x.amount < sI
                · have hV := hide (show checkL fs l = 27 by
                    have hb : l.any (amtBad fs l) = true := by
                      rw [List.any_eq_true]; exact ⟨_, H3.out ▸ List.getElem_mem hlt, by rw [HBAD.out]; simp [c1]⟩
                    have h5 := H512.out
                    have hn := hnd.out
                    simp [checkL, h5, herr.out, hn, hb])
                  have c1' : decide (x.amount < sI) = true := by simpa using c1
                  go_wp2
                  go_quiet (fail)
                  go_wp2
                  go_ret
                  refine ⟨by rw [hV.out]; rfl, ?_⟩
                  repeat (first | with_reducible exact hB6.out | with_reducible refine Below.setCell ?_ ?_ _ | with_reducible refine Below.alloc ?_ ?_ _ | with_reducible refine below_drewN ?_ _ | omega | (simp <;> omega))
                · by_cases c2 : gt < sR
                  · have hV := hide (show checkL fs l = 27 by
                      have hb : l.any (amtBad fs l) = true := by
                        rw [List.any_eq_true]; exact ⟨_, H3.out ▸ List.getElem_mem hlt, by rw [HBAD.out]; simp [c2]⟩
                      have h5 := H512.out
                      have hn := hnd.out
                      simp [checkL, h5, herr.out, hn, hb])
                    have c1' : decide (x.amount < sI) = false := by simpa using c1
                    have c2' : decide (gt < sR) = true := by simpa using c2
                    go_wp2
                    go_quiet (fail)
                    go_wp2
                    go_ret
                    refine ⟨by rw [hV.out]; rfl, ?_⟩
                    repeat (first | with_reducible exact hB6.out | with_reducible refine Below.setCell ?_ ?_ _ | with_reducible refine Below.alloc ?_ ?_ _ | with_reducible refine below_drewN ?_ _ | omega | (simp <;> omega))
                  · have c1' : decide (x.amount < sI) = false := by simpa using c1
                    have c2' : decide (gt < sR) = false := by simpa using c2
                    have HB := hide (show amtBad fs l ⟨id, ride, it, amount⟩ = false by rw [HBAD.out]; simp [c1, c2])
                    go_wp2
                    go_quiet (fail)
                    go_wp2
                    go_roundw
                    case rel =>
                      refine ⟨k+1, by omega, by go_num, ?_, ?_⟩
                      · show Below _ _ _
                        repeat (first | with_reducible exact hB6.out | with_reducible refine Below.setCell ?_ ?_ _ | with_reducible refine Below.alloc ?_ ?_ _ | with_reducible refine below_drewN ?_ _ | omega | (simp <;> omega))
                      · intro j h hj
                        by_cases e : j = k
                        · subst e; have := H3.out; simp only [this]; exact HB.out
                        · exact hno j h (by omega)
                    case measure => simp [intOf]; omega
            · obtain rfl : k = l.length := by omega
              have hV := hide (show checkL fs l = 0 by
                have hb : l.any (amtBad fs l) = false := by
                  rw [List.any_eq_false]; intro y hy; obtain ⟨j, hj, rfl⟩ := List.getElem_of_mem hy; simp [hno.out j hj hj]
                have h5 := H512.out
                have hn := hnd.out
                simp [checkL, h5, herr.out, hn, hb])
              go_wp2
              go_ret
              exact ⟨by rw [hV.out]; rfl, hb5.out⟩
end Go.Proofs.Ytcnnffbpdemoiaa
