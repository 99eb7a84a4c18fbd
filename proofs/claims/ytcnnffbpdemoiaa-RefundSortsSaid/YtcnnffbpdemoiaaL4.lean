import Derived.Test.YtcnnffbpdemoiaaWa
import Derived.Test.YtcnnffbpdemoiaaPs
namespace Go.Proofs.Ytcnnffbpdemoiaa
open Go.RowKit
set_option linter.unusedVariables false

set_option maxRecDepth 100000 in
set_option maxHeartbeats 4000000 in
theorem lawSorts (a0 a : Option Addr) (cap0 cap : Nat) (fs : List FareS) (l : List RefS) (ride item : Int) (w : World) (HF : FareS.sl w a0 cap0 fs) (H : RefS.sl w a cap l) (jr : I64 ride) (ji : I64 item) :
    Calls Try.prog 9 #[.slice a0 fs.length cap0, .slice a l.length cap, .int .i64 ride, .int .i64 item] w (Ret w (.bool true)) := by
  have HL := hide H
  have HF' := hide HF; clear HF
  obtain ⟨-, -, -, hfs, hok⟩ := H
  have HHFS := hide hfs; have HOK := hide hok; clear hfs hok
  have JR := hide jr; have JI := hide ji; clear jr ji
  obtain ⟨i0, hi, hz0, hz1, hz2⟩ := info_parts info30
  have HI := hide hi; have HZ0 := hide hz0; have HZ1 := hide hz1; have HZ2 := hide hz2
  clear hi hz0 hz1 hz2
  go_enter Try.func9, Try.ntmps9
  go_wp2_with fail
  refine (few_c a0 cap0 fs _ HF'.out).mono ?_
  rintro e w1 ⟨rfl, rfl⟩
  cases hfew : fewL fs
  · go_wp2_with fail
    refine (awake_c _).mono ?_
    rintro e w2 ⟨rfl, hb⟩
    have HB := hide hb; clear hb
    go_wp2
    go_ret
    exact ⟨rfl, HB.out⟩
  · by_cases h60 : (60 : Int) < l.length
    · go_wp2_with fail
      refine (awake_c _).mono ?_
      rintro e w2 ⟨rfl, hb⟩
      have HB := hide hb; clear hb
      go_wp2
      go_ret
      exact ⟨rfl, HB.out⟩
    · have h' : (l.length : Int) ≤ 60 := by omega
      clear h60
      have HFEW := hide hfew; clear hfew
      go_wp2
      go_loopw [9, 10] (fun v i wr => ∃ j : Nat, j ≤ l.length ∧ i = .int .i64 ((j : Int) - 1) ∧ Hid (wr.ownsRow w.heap.size 30 4 v (l.length - j) (RefS.flat (l.drop j).reverse)) ∧ Hid (Below w.heap.size w wr)) (fun _ i _ => (intOf i + 1).toNat)
      case atStart => exact ⟨l.length, Nat.le_refl _, rfl, by simp only [Nat.sub_self, List.drop_length, List.reverse_nil]; exact World.ownsRow_nil _ _ _ _, Below.refl _ _⟩
      case round =>
        obtain ⟨j, hj, rfl, hown, hb⟩ := hrel
        obtain ⟨hc, hz⟩ := bcell hb.out
        have hs := hb.out.size
        by_cases hlt : 0 < j
        · obtain ⟨k, rfl⟩ : ∃ k, j = k + 1 := ⟨j - 1, by omega⟩
          obtain ⟨b, o, rfl, hbw, hf⟩ := HHFS.out (by omega)
          obtain ⟨h0, h1, h2, h3⟩ := hf k (by omega)
          have ed : (l.drop k).reverse = (l.drop (k + 1)).reverse ++ [l[k]] := by rw [List.drop_eq_getElem_cons (by omega)]; simp
          generalize hlk : l[k] = y at *
          have H3 := hide hlk; have H4 := hide hf; have ED := hide ed; clear hlk hf ed
          have hkl : (k : Int) < (l.length : Int) := by omega
          have q1 : b < wr.heap.size := by omega
          have e1 : ((k + 1 : Nat) : Int) - 1 = (k : Int) := by omega
          rw [e1]
          go_wp2_with (at_builtin; refine wpList_append_own _ rfl _ _ 23 rfl w.heap.size 30 i0 _ 4 32 Try.underlying23 HI.out HZ0.out HZ1.out HZ2.out rfl (by decide) _ _ _ rfl (hown.out.alloc _) ⟨wr.heap.size, 0, none⟩ 1 1 y.vals rfl rfl ?c1 ?c2 ?c3 ?c4 ?c5 ?_)
          case c1 => intro j u hj; rw [addr_add]; simpa using hj
          case c2 => intro u hu; exact RefS.flat_cell [y] u (by simpa [RefS.flat] using hu)
          case c3 => unfold maxLen; omega
          case c4 => omega
          case c5 => first | omega | (simp <;> omega)
          intro v' w3 hown3 hgrow3 _
          rw [← RefS.flat_one, ← RefS.flat_append, ← ED.out] at hown3
          have B3 := hide ((hb.out.alloc hs _).grown hgrow3 (by first | omega | (simp <;> omega)) (fun q hq => (hown.out.lt q hq).1))
          rw [show l.length - (k + 1) + 1 = l.length - k by omega] at hown3
          have O3 := hide hown3; clear hown3 hgrow3
          go_wp2
          go_roundw
          case rel => exact ⟨k, by omega, rfl, O3, B3⟩
          case measure => simp [intOf] <;> omega
        · obtain rfl : j = 0 := by omega
          have hown' := hown.out
          rw [List.drop_zero, Nat.sub_zero] at hown'
          obtain ⟨l2, hl2⟩ : ∃ l2, l2 = l.reverse := ⟨_, rfl⟩
          have E1 := hide (show l.length = l2.length by rw [hl2]; simp)
          rw [← hl2, E1.out] at hown'
          obtain ⟨a2, c2, hv, hsl⟩ := RefS.sl_owns hown' (fun x hx => RefS.ok_below hb.out (HOK.out x (by rw [hl2] at hx; exact List.mem_reverse.1 hx)))
          have L2 := hide hsl; have HL2 := hide hl2; clear hsl hl2 hown' hown hc hz
          subst hv
          go_wp2_with fail
          refine (check_c a0 a cap0 cap fs l _ (FareS.sl_below hb.out HF'.out) (RefS.sl_below hb.out HL.out)).mono ?_
          rintro e w3 ⟨rfl, hb3⟩
          have B3 := hide (hb.out.trans (hb3.mono hs)); have L3 := hide (RefS.sl_below hb3 L2.out); clear hb3
          have hcc := check_reverse fs l
          rw [← HL2.out] at hcc
          generalize hE : checkL fs l = E at *
          have HE := hide hE; clear hE
          go_wp2_with fail
          refine (check_c a0 a2 cap0 c2 fs l2 _ (FareS.sl_below B3.out HF'.out) L3.out).mono ?_
          rintro e w4 ⟨rfl, hb4⟩
          have B4 := hide (B3.out.trans (hb4.mono B3.out.size)); have L4 := hide (RefS.sl_below hb4 L3.out); clear hb4
          generalize hE2 : checkL fs l2 = E2 at *
          have HE2 := hide hE2; clear hE2
          have hbb : (E2 == 0) = (E == 0) := by rw [Bool.eq_iff_iff]; simpa using hcc
          clear hcc
          have hle := left_reverse fs l ride item
          have hne := net_reverse fs l ride
          rw [← HL2.out] at hle hne
          have HLE := hide hle; have HNE := hide hne; clear hle hne
          generalize hbE : (E == 0) = bE at *
          have HBE := hide hbE; clear hbE
          go_wp2_with fail
          refine (left_c a0 a cap0 cap fs l ride item _ (FareS.sl_below B4.out HF'.out) (RefS.sl_below B4.out HL.out) JR.out JI.out).mono ?_
          rintro e w5 ⟨rfl, hb5⟩
          rw [← HLE.out]
          have B5 := hide (B4.out.trans (hb5.mono B4.out.size)); have L5 := hide (RefS.sl_below hb5 L4.out); clear hb5
          go_wp2_with fail
          refine (left_c a0 a2 cap0 c2 fs l2 ride item _ (FareS.sl_below B5.out HF'.out) L5.out JR.out JI.out).mono ?_
          rintro e w6 ⟨rfl, hb6⟩
          have B6 := hide (B5.out.trans (hb6.mono B5.out.size)); have L6 := hide (RefS.sl_below hb6 L5.out); clear hb6
          go_wp2_with fail
          refine (net_c a0 a cap0 cap fs l ride _ (FareS.sl_below B6.out HF'.out) (RefS.sl_below B6.out HL.out) JR.out).mono ?_
          rintro e w7 ⟨rfl, hb7⟩
          rw [← HNE.out]
          have B7 := hide (B6.out.trans (hb7.mono B6.out.size)); have L7 := hide (RefS.sl_below hb7 L6.out); clear hb7
          go_wp2_with fail
          refine (net_c a0 a2 cap0 c2 fs l2 ride _ (FareS.sl_below B7.out HF'.out) L7.out JR.out).mono ?_
          rintro e w8 ⟨rfl, hb8⟩
          have B8 := hide (B7.out.trans (hb8.mono B7.out.size)); clear hb8
          go_wp2_with fail
          refine (awake_c _).mono ?_
          rintro e w9 ⟨rfl, hb9⟩
          have B9 := hide (B8.out.trans (hb9.mono B8.out.size)); clear hb9
          go_wp2
          go_ret
          exact ⟨rfl, B9.out⟩

theorem lawSorts' (a0 : Option Addr) (cap0 : Nat) (fs : List FareS) (a : Option Addr) (cap : Nat) (l : List RefS) (ride item : Int) (w : World) (HF : FareS.sl w a0 cap0 fs) (H : RefS.sl w a cap l) (jr : I64 ride) (ji : I64 item) :
    Calls Try.prog 9 #[.slice a0 fs.length cap0, .slice a l.length cap, .int .i64 ride, .int .i64 item] w (Ret w (.bool true)) := lawSorts a0 a cap0 cap fs l ride item w HF H jr ji
end Go.Proofs.Ytcnnffbpdemoiaa
