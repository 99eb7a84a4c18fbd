import Derived.Test.YtfpdhalfkfffnaaV7
import Derived.StillTailTactics
namespace Go.Proofs.Ytfpdhalfkfffnaa
open Go.RowKit
set_option linter.unusedVariables false
set_option linter.unusedSimpArgs false
set_option linter.unnecessarySimpa false

def sameRL : List RideS → List RideS → Bool
  | [], [] => true
  | x :: xs, y :: ys => sameL x y && sameRL xs ys
  | _, _ => false
theorem sameRL_len : ∀ (l m : List RideS), l.length ≠ m.length → sameRL l m = false
  | [], [], h => absurd rfl h
  | [], _ :: _, _ => rfl
  | _ :: _, [], _ => rfl
  | x :: xs, y :: ys, h => by rw [sameRL, sameRL_len xs ys (by simpa using h), Bool.and_false]
set_option maxRecDepth 100000 in
set_option maxHeartbeats 1600000 in
theorem sameR_c (a b : Option Addr) (ac bc : Nat) (l m : List RideS) (w : World) (HA : RideS.sl w a ac l) (HB : RideS.sl w b bc m) : Calls Try.prog 28 #[.slice a l.length ac, .slice b m.length bc] w (Ret w (.bool (sameRL l m))) := by
  obtain ⟨al1, al2, -, La, aok⟩ := HA
  obtain ⟨bl1, bl2, -, Lb, bok⟩ := HB
  have hla := Nat.le_trans al1 al2
  have hlb := Nat.le_trans bl1 bl2
  unfold maxLen at hla hlb
  clear al1 al2 bl1 bl2
  have AOK := hide aok; have BOK := hide bok; clear aok bok
  by_cases hl : l.length = m.length
  rotate_left
  · have hV := hide (sameRL_len l m hl)
    have d1 : ((l.length : Int) != (m.length : Int)) = true := by rw [bne_iff_ne]; omega
    clear hl
    go_enter Try.func28, Try.ntmps28
    go_wp2
    go_ret
    exact ⟨by rw [hV.out]; rfl, by repeat (first | with_reducible exact (Below.refl _ _) | with_reducible refine Below.setCell ?_ ?_ _ | with_reducible refine Below.alloc ?_ ?_ _ | with_reducible refine Below.drew ?_ | with_reducible refine below_drewN ?_ _ | omega | (simp <;> omega))⟩
  have d1 : ((l.length : Int) != (m.length : Int)) = false := by rw [hl]; exact bne_self_eq_false _
  have HL := hide hl; clear hl
  go_enter Try.func28, Try.ntmps28
  go_wp2_with fail
  clear d1
  go_loopw [5] (fun i wr => ∃ k : Nat, k ≤ l.length ∧ i = .int .i64 k ∧ Below w.heap.size w wr ∧ Hid (sameRL l m = sameRL (l.drop k) (m.drop k))) (fun i wr => l.length - (intOf i).toNat)
  case atStart => exact ⟨0, Nat.zero_le _, rfl, Below.refl _ _, rfl⟩
  case round =>
    obtain ⟨k, hk, rfl, hb, hv⟩ := hrel
    obtain ⟨hd, hy⟩ := bcell hb
    have HB := hide hb; clear hb
    by_cases hlt : k < l.length
    · have hlt2 : k < m.length := by have := HL.out; omega
      obtain ⟨ab, ao, ae, abw, af⟩ := La (by omega)
      obtain ⟨bb, bo, be, bbw, bf⟩ := Lb (by omega)
      obtain ⟨f0, f1, f2, f3, f4, f5, f6, f7, f8, f9, f10, f11, f12⟩ := af k hlt
      obtain ⟨g0, g1, g2, g3, g4, g5, g6, g7, g8, g9, g10, g11, g12⟩ := bf k hlt2
      have XOK := hide (AOK.out _ (List.getElem_mem hlt))
      have YOK := hide (BOK.out _ (List.getElem_mem hlt2))
      have hv2 := hide (hv.out.trans (show sameRL (l.drop k) (m.drop k) = (sameL l[k] m[k] && sameRL (l.drop (k+1)) (m.drop (k+1))) by rw [List.drop_eq_getElem_cons hlt, List.drop_eq_getElem_cons hlt2]; rfl))
      generalize hx : l[k] = x at *
      generalize hy : m[k] = y at *
      clear hx hy af bf hv
      go_wp2
      go_still_tail 8, (by kernel_rfl)
      change wpList _ _ _ _ _ wr.drew
      have HB' := hide (show Below w.heap.size w wr.drew from HB.out.drew)
      generalize wr.drew = w2 at *
      go_wp2_with fail
      refine (sameD_c x y _ ?_ ?_).mono ?_
      · exact RideS.ok_below HB'.out XOK.out
      · exact RideS.ok_below HB'.out YOK.out
      rintro e w3 ⟨rfl, hb⟩
      obtain ⟨hc1, hz1⟩ := bcell hb
      have hs1 := hb.size
      try simp at hs1
      have hps := (HB'.out).size
      have HW1 : Hid (Below w.heap.size w w3) := (show Below w.heap.size w _ by repeat (first | with_reducible exact (HB'.out) | with_reducible refine Below.setCell ?_ ?_ _ | with_reducible refine Below.alloc ?_ ?_ _ | with_reducible refine Below.drew ?_ | with_reducible refine below_drewN ?_ _ | omega | (simp <;> omega))).trans (hb.mono (by first | omega | (simp <;> omega)))
      clear hb hps
      obtain ⟨he1, hef1⟩ := bcell HW1.out
      cases hs : sameL x y
      · have hV := hide (hv2.out.trans (show (sameL x y && sameRL (l.drop (k+1)) (m.drop (k+1))) = false by rw [hs]; rfl))
        clear hv2
        go_wp2
        try rw [ae]
        try rw [be]
        go_ret
        exact ⟨by rw [hV.out]; rfl, by repeat (first | with_reducible exact (HW1.out) | with_reducible refine Below.setCell ?_ ?_ _ | with_reducible refine Below.alloc ?_ ?_ _ | with_reducible refine Below.drew ?_ | with_reducible refine below_drewN ?_ _ | omega | (simp <;> omega))⟩
      · have hV := hide (hv2.out.trans (show (sameL x y && sameRL (l.drop (k+1)) (m.drop (k+1))) = sameRL (l.drop (k+1)) (m.drop (k+1)) by rw [hs]; rfl))
        clear hv2
        go_wp2
        try rw [ae]
        try rw [be]
        go_roundw
        case rel =>
          refine ⟨k+1, by omega, by go_num, ?_, hV⟩
          exact HW1.out
        case measure => simp [intOf]; omega
    · have hV := hide (hv.out.trans (show sameRL (l.drop k) (m.drop k) = true by rw [List.drop_of_length_le (by omega), List.drop_of_length_le (by have := HL.out; omega)]; rfl))
      go_wp2
      go_ret
      exact ⟨by rw [hV.out]; rfl, by repeat (first | with_reducible exact (HB.out) | with_reducible refine Below.setCell ?_ ?_ _ | with_reducible refine Below.alloc ?_ ?_ _ | with_reducible refine Below.drew ?_ | with_reducible refine below_drewN ?_ _ | omega | (simp <;> omega))⟩


end Go.Proofs.Ytfpdhalfkfffnaa
