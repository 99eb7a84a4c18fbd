import Derived.Test.YtcnnffbpdemoiaaWa
import Derived.Test.YtcnnffbpdemoiaaPl
namespace Go.Proofs.Ytcnnffbpdemoiaa
open Go.RowKit
set_option linter.unusedVariables false

theorem firstIdx_some {fs : List FareS} {ride : Int} {f : FareS} (h : findL fs ride = some f) : ∃ n, ∃ hn : n < fs.length, firstIdx fs ride = (n : Int) ∧ fs[n] = f := by
  cases hi : fs.findIdx? (fun f => f.ride == ride) with
  | none =>
    rw [List.findIdx?_eq_none_iff] at hi
    have h1 := List.find?_some h
    have h2 := hi f (findL_mem h)
    simp [h2] at h1
  | some n =>
    have hi' := hi
    rw [List.findIdx?_eq_some_iff_getElem] at hi
    obtain ⟨hn, h1, h2⟩ := hi
    refine ⟨n, hn, by simp [firstIdx, hi'], ?_⟩
    have := find_some (fun f : FareS => f.ride == ride) fs n hn (fun j hj hlt => by have := h2 j hlt; simpa using this) h1
    rw [findL, this] at h
    exact Option.some.inj h

set_option maxRecDepth 100000 in
set_option maxHeartbeats 4000000 in
theorem lawBound (a0 a : Option Addr) (cap0 cap : Nat) (fs : List FareS) (l : List RefS) (w : World) (HF : FareS.sl w a0 cap0 fs) (H : RefS.sl w a cap l) :
    Calls Try.prog 6 #[.slice a0 fs.length cap0, .slice a l.length cap] w (Ret w (.bool true)) := by
  have HL := hide H
  have HF' := hide HF
  obtain ⟨hl1, hl2, -, hfs, -⟩ := H
  obtain ⟨gl1, gl2, -, gfs, gok⟩ := HF
  have hlen := Nat.le_trans hl1 hl2
  have glen := Nat.le_trans gl1 gl2
  unfold maxLen at hlen glen
  clear hl1 hl2 gl1 gl2
  have GOK := hide gok; clear gok
  have HGFS := hide gfs; clear gfs
  have HHFS := hide hfs; clear hfs
  go_enter Try.func6, Try.ntmps6
  go_wp2_with (go_at_call 10; refine (few_c a0 cap0 fs _ HF'.out).mono ?_)
  rintro e w1 ⟨rfl, rfl⟩
  cases hfew : fewL fs
  · go_wp2_with (go_at_call 11; refine (awake_c _).mono ?_)
    rintro e w2 ⟨rfl, hb⟩
    have HB := hide hb; clear hb
    go_wp2
    go_ret
    exact ⟨rfl, HB.out⟩
  · by_cases h60 : (60 : Int) < l.length
    · go_wp2_with (go_at_call 11; refine (awake_c _).mono ?_)
      rintro e w2 ⟨rfl, hb⟩
      have HB := hide hb; clear hb
      go_wp2
      go_ret
      exact ⟨rfl, HB.out⟩
    · have h' : (l.length : Int) ≤ 60 := by omega
      clear h60
      go_wp2_with (go_at_call 12; refine (check_c a0 a cap0 cap fs l _ HF'.out HL.out).mono ?_)
      rintro e w2 ⟨rfl, hb⟩
      have B2 := hide hb; clear hb
      generalize hE : checkL fs l = E at *
      have HE := hide hE; clear hE
      cases hE0 : (E != 0)
      · have g := hide (check_good.1 (show checkL fs l = 0 by rw [HE.out]; simpa using hE0))
        have HFEW := hide hfew; clear hfew
        go_wp2
        go_loopw [5] (fun i wr => ∃ k : Nat, k ≤ l.length ∧ i = .int .i64 k ∧ Hid (Below w.heap.size w wr)) (fun i wr => l.length - (intOf i).toNat)
        case atStart => exact ⟨0, Nat.zero_le _, rfl, B2⟩
        case round =>
          obtain ⟨k, hk, rfl, hb⟩ := hrel
          obtain ⟨hc, hz⟩ := bcell hb.out
          have hs := hb.out.size
          by_cases hlt : k < l.length
          · obtain ⟨b, o, rfl, hbw, hf⟩ := HHFS.out (by omega)
            obtain ⟨h0, h1, h2, h3⟩ := hf k hlt
            have JR := hide (HL.out.2.2.2.2 l[k] (List.getElem_mem hlt)).2.1
            obtain ⟨f, x, hfx, ha1, ha2, -, -, hx1⟩ := one_facts (g.out.one l[k] (List.getElem_mem hlt))
            obtain ⟨s1, s2, s3, s4, s5, s6⟩ := g.out.sums hfx
            obtain ⟨hfind, hi0, hilen, hix⟩ := itemL_some hfx
            obtain ⟨n, hn, hidx, hfn⟩ := firstIdx_some hfind
            have hbad := g.out.amts l[k] (List.getElem_mem hlt)
            simp only [amtBad, hfx, Bool.or_eq_false_iff] at hbad
            obtain ⟨bad1, bad2⟩ := hbad
            obtain ⟨-, -, gIt, gTot⟩ := GOK.out f (findL_mem hfind)
            obtain ⟨-, -, -, hxc, -⟩ := gIt
            obtain ⟨ib, io, hia, hib, hxc⟩ := hxc (by omega)
            obtain ⟨x0, x1, x2⟩ := hxc _ hilen
            rw [hix] at x0 x1 x2
            obtain ⟨fb, fo, hfa, hfb, hfc⟩ := HGFS.out (by omega)
            obtain ⟨f0, f1, f2, f3⟩ := hfc n hn
            rw [hfn] at f0 f1 f2 f3
            have hnet : netL fs l l[k].ride = (wrap64 (f.total - sumR l l[k].ride), 0) := by
              have hc0 : checkL fs l = 0 := check_good.2 g.out
              simp [netL, hc0, hfind]
            have hneg : decide (wrap64 (f.total - sumR l l[k].ride) < 0) = false := by
              have hm : sumR l l[k].ride ≤ f.total := by simpa using bad2
              unfold I64 at gTot
              rw [wrap64_in (by omega)]; simp; omega
            have ha1' : decide (l[k].amount < 1) = false := by simp; omega
            clear hxc hfc hfx s1 s2 s3 s4 s5 s6 ha1 ha2 hx1 bad2 gTot hfn x0 x1 f0 f1
            generalize hlk : l[k] = r at *
            obtain ⟨id, ride, item, amount⟩ := r
            obtain ⟨it, hit⟩ := Int.eq_ofNat_of_zero_le hi0
            simp only at hit
            subst hit
            obtain ⟨fr, fri, fia, fic, fit, ft⟩ := f
            simp only [Int.toNat_natCast] at hilen x2
            simp only at hia
            subst hia
            subst hfa
            simp only at h0 h1 h2 h3 f2 f3 hnet hneg bad1 ha1' hidx
            have hit1 : (it : Int) < (fit.length : Int) := by omega
            have hit0 : (0 : Int) ≤ (it : Int) := by omega
            have hnl : (n : Int) < (fs.length : Int) := by omega
            have hn0 : (0 : Int) ≤ (n : Int) := by omega
            have hkl : (k : Int) < (l.length : Int) := by omega
            have q1 : b < wr.heap.size := by omega
            have q2 : fb < wr.heap.size := by omega
            have q3 : ib < wr.heap.size := by omega
            have H1 := hide hfind; have H3 := hide hlk; have H4 := hide hf; have H5 := hide hnet; have H6 := hide hidx; have H7 := hide bad1; have H8 := hide hneg; have H9 := hide ha1'
            clear hfind hix hlk hf hnet hidx bad1 hneg ha1' hi0 hilen
            go_wp2_with fail
            refine (first_c (some ⟨fb, fo, none⟩) cap0 fs ride _ (FareS.sl_below hb.out HF'.out)).mono ?_
            rintro e w3 ⟨rfl, rfl⟩
            rw [H6.out]
            have d1 : decide ((n : Int) < 0) = false := by simp
            have d2 : decide ((it : Int) < 0) = false := by simp
            have d3 : decide ((fit.length : Int) ≤ (it : Int)) = false := by simp; omega
            go_wp2
            go_quiet (fail)
            go_wp2
            obtain ⟨wo, hwo⟩ : ∃ wo, wo = wr := ⟨_, rfl⟩
            subst hwo
            go_loopw [7, 8, 9] (fun s t i wr => ∃ j : Nat, j ≤ l.length ∧ i = .int .i64 j ∧ s = .int .i64 (sumI (l.take j) ride it) ∧ t = .int .i64 (sumR (l.take j) ride) ∧ Hid (Below wo.heap.size wo wr)) (fun _ _ i _ => l.length - (intOf i).toNat)
            case atStart => exact ⟨0, Nat.zero_le _, rfl, rfl, rfl, below_drewN (Below.refl _ _) _⟩
            case round =>
              obtain ⟨j, hj, rfl, rfl, rfl, hb4⟩ := hrel
              obtain ⟨hc4, hz4⟩ := bcell hb4.out
              have hs4 := hb4.out.size
              by_cases hjl : j < l.length
              · obtain ⟨g0, g1, g2, g3⟩ := H4.out j hjl
                have e1 := take_snoc l j hjl
                generalize hgj : l[j] = y at *
                have E1 := hide e1; clear e1
                have G3 := hide hgj; clear hgj
                have hjl' : (j : Int) < (l.length : Int) := by omega
                cases hr : (y.ride == ride)
                · go_wp2
                  go_quiet (fail)
                  go_wp2
                  go_roundw
                  case rel => exact ⟨j+1, by omega, by go_num, by rw [E1.out, sumI_snoc]; simp [hr], by rw [E1.out, sumR_snoc]; simp [hr], below_drewN hb4.out _⟩
                  case measure => simp [intOf]; omega
                · cases hi : (y.item == it)
                  · go_wp2
                    go_quiet (fail)
                    go_wp2
                    go_quiet (fail)
                    go_wp2
                    go_roundw
                    case rel => exact ⟨j+1, by omega, by go_num, by rw [E1.out, sumI_snoc]; simp [hr, hi], by rw [E1.out, sumR_snoc]; simp [hr], by first | exact below_drewN hb4.out _ | exact below_drewN (below_drewN hb4.out _) _⟩
                    case measure => simp [intOf]; omega
                  · go_wp2
                    go_quiet (fail)
                    go_wp2
                    go_quiet (fail)
                    go_wp2
                    go_roundw
                    case rel => exact ⟨j+1, by omega, by go_num, by rw [E1.out, sumI_snoc]; simp [hr, hi], by rw [E1.out, sumR_snoc]; simp [hr], by first | exact below_drewN hb4.out _ | exact below_drewN (below_drewN hb4.out _) _⟩
                    case measure => simp [intOf]; omega
              · obtain rfl : j = l.length := by omega
                rw [List.take_length]
                have HB4 := hide (hb.out.trans (hb4.out.mono hs))
                have q4 : b < wr.heap.size := by omega
                have q5 : fb < wr.heap.size := by omega
                have q6 : ib < wr.heap.size := by omega
                generalize hsI : sumI l ride it = sI at *
                generalize hsR : sumR l ride = sR at *
                have SI := hide hsI; clear hsI
                have SR := hide hsR; clear hsR
                have hb4s := hb4.out.size
                have H2 := hide hb4; clear hb4
                go_wp2_with fail
                refine (net_c _ _ cap0 cap fs l ride _ (FareS.sl_below HB4.out HF'.out) (RefS.sl_below HB4.out HL.out) JR.out).mono ?_
                rintro e w5 ⟨rfl, hb5⟩
                rw [H5.out]
                have hs5 := hb5.size
                obtain ⟨hc5, hz5⟩ := bcell hb5
                have q7 : b < w5.heap.size := by omega
                have q8 : fb < w5.heap.size := by omega
                have q9 : ib < w5.heap.size := by omega
                have HB5 := hide (HB4.out.trans (hb5.mono HB4.out.size)); clear hb5
                have h7 := H7.out
                have h8 := H8.out
                have h9 := H9.out
                go_wp2
                go_quiet (fail)
                go_wp2
                go_roundw
                case rel => exact ⟨k+1, by omega, by go_num, below_drewN HB5.out _⟩
                case measure => simp [intOf]; omega
          · obtain rfl : k = l.length := by omega
            go_wp2_with (go_at_call 11; refine (awake_c _).mono ?_)
            rintro e w5 ⟨rfl, hb5⟩
            have B5 := hide (hb.out.trans (hb5.mono hs)); clear hb5
            go_wp2
            go_ret
            exact ⟨rfl, B5.out⟩
      · go_wp2_with (go_at_call 11; refine (awake_c _).mono ?_)
        rintro e w3 ⟨rfl, hb⟩
        have HB := hide (B2.out.trans (hb.mono B2.out.size)); clear hb
        go_wp2
        go_ret
        exact ⟨rfl, HB.out⟩

theorem lawBound' (a0 : Option Addr) (cap0 : Nat) (fs : List FareS) (a : Option Addr) (cap : Nat) (l : List RefS) (w : World) (HF : FareS.sl w a0 cap0 fs) (H : RefS.sl w a cap l) :
    Calls Try.prog 6 #[.slice a0 fs.length cap0, .slice a l.length cap] w (Ret w (.bool true)) := lawBound a0 a cap0 cap fs l w HF H
end Go.Proofs.Ytcnnffbpdemoiaa
