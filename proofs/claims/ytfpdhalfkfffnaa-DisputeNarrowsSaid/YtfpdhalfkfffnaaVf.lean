import Derived.Test.YtfpdhalfkfffnaaVe
namespace Go.Proofs.Ytfpdhalfkfffnaa
open Go.RowKit
set_option linter.unusedVariables false
set_option linter.unusedSimpArgs false
set_option linter.unnecessarySimpa false

theorem narrow_c (r : RideS) (e : EvS) (w : World) (H : RideS.ok w r) (HE : EvS.ok w e) : Calls Try.prog 12 #[RV r, EV e] w (NarPost w (narrowL r e)) := by
  cases hO : r.open_ with
  | true =>
    have h : r = { r with open_ := true } := by rw [← hO]
    rw [h] at H ⊢
    exact narrow_open r e w H HE
  | false =>
    have h : r = { r with open_ := false } := by rw [← hO]
    rw [h] at H ⊢
    exact narrow_closed r e w H HE
set_option maxRecDepth 100000 in
set_option maxHeartbeats 4000000 in
theorem qnarrow_open (r : RideS) (e : EvS) (w : World) (H : RideS.ok w { r with open_ := true }) (HE : EvS.ok w e) : Calls Try.prog 13 #[RV { r with open_ := true }, EV e] w (NarPost w (narrowL { r with open_ := true } e)) := by
  have HH := hide H; clear H
  have HEE := hide HE; clear HE
  go_enter Try.func13, Try.ntmps13
  go_wp2_with fail
  refine (qcheck_c { r with open_ := true } _ ?_).mono ?_
  · exact RideS.ok_below (by repeat (first | with_reducible exact (Below.refl _ _) | with_reducible refine Below.setCell ?_ ?_ _ | with_reducible refine Below.alloc ?_ ?_ _ | with_reducible refine Below.drew ?_ | with_reducible refine below_drewN ?_ _ | omega | (simp <;> omega))) HH.out
  rintro e w1 ⟨rfl, hb⟩
  obtain ⟨hc1, hz1⟩ := bcell hb
  have hs1 := hb.size
  try simp at hs1
  have hqw_1 : w.heap.size < w1.heap.size := by omega
  have hqw_1_1 : w.heap.size + 1 < w1.heap.size := by omega
  have hqw_2_1 : w.heap.size + 2 < w1.heap.size := by omega
  have HW1 : Hid (Below w.heap.size w w1) := (show Below w.heap.size w _ by repeat (first | with_reducible exact (Below.refl _ _) | with_reducible refine Below.setCell ?_ ?_ _ | with_reducible refine Below.alloc ?_ ?_ _ | with_reducible refine Below.drew ?_ | with_reducible refine below_drewN ?_ _ | omega | (simp <;> omega))).trans (hb.mono (by first | omega | (simp <;> omega)))
  clear hb
  obtain ⟨he1, hef1⟩ := bcell HW1.out
  by_cases hck : checkL { r with open_ := true } = 0
  rotate_left
  · have hV := hide (show narrowL { r with open_ := true } e = (zeroR, checkL { r with open_ := true }) by rw [narrowL, if_pos hck])
    have d1 : (checkL { r with open_ := true } != 0) = true := by rw [bne_iff_ne]; exact hck
    generalize checkL { r with open_ := true } = ck at *
    go_wp2
    refine bodyPost_ret (v := .tuple #[RV zeroR, .int .i64 ck]) (by simp [results, Try.results13, go_sem, zeroR, *]) rfl (NarPost.err ?_ hV.out)
    repeat (first | with_reducible exact (HW1.out) | with_reducible refine Below.setCell ?_ ?_ _ | with_reducible refine Below.alloc ?_ ?_ _ | with_reducible refine Below.drew ?_ | with_reducible refine below_drewN ?_ _ | omega | (simp <;> omega))
  have HCK := hide hck
  have d1 : (checkL { r with open_ := true } != 0) = false := by rw [hck]; rfl
  clear hck
  have HWP := HW1
  by_cases hE : e.ride = r.id
  rotate_left
  · have d2 : (e.ride != r.id) = true := by rw [bne_iff_ne]; exact hE
    have hV := hide (show narrowL { r with open_ := true } e = (zeroR, 7) by rw [narrowL, if_neg (show ¬ checkL { r with open_ := true } ≠ 0 by simp [HCK.out]), if_pos hE])
    go_wp2
    refine bodyPost_ret (v := .tuple #[RV zeroR, .int .i64 7]) (by simp [results, Try.results13, go_sem, zeroR, *]) rfl (NarPost.err ?_ hV.out)
    repeat (first | with_reducible exact (HWP.out) | with_reducible refine Below.setCell ?_ ?_ _ | with_reducible refine Below.alloc ?_ ?_ _ | with_reducible refine Below.drew ?_ | with_reducible refine below_drewN ?_ _ | omega | (simp <;> omega))
  have d2 : (e.ride != r.id) = false := by rw [hE]; exact bne_self_eq_false _
  have HE := hide hE; clear hE
  have hV := hide (show narrowL { r with open_ := true } e = (zeroR, 26) by rw [narrowL, if_neg (show ¬ checkL { r with open_ := true } ≠ 0 by simp [HCK.out]), if_neg (not_not_intro HE.out), if_pos rfl])
  go_wp2
  refine bodyPost_ret (v := .tuple #[RV zeroR, .int .i64 26]) (by simp [results, Try.results13, go_sem, zeroR, *]) rfl (NarPost.err ?_ hV.out)
  repeat (first | with_reducible exact (HWP.out) | with_reducible refine Below.setCell ?_ ?_ _ | with_reducible refine Below.alloc ?_ ?_ _ | with_reducible refine Below.drew ?_ | with_reducible refine below_drewN ?_ _ | omega | (simp <;> omega))
set_option maxRecDepth 100000 in
set_option maxHeartbeats 4000000 in
theorem qnarrow_closed (r : RideS) (e : EvS) (w : World) (H : RideS.ok w { r with open_ := false }) (HE : EvS.ok w e) : Calls Try.prog 13 #[RV { r with open_ := false }, EV e] w (NarPost w (narrowL { r with open_ := false } e)) := by
  have HH := hide H; clear H
  have HEE := hide HE; clear HE
  go_enter Try.func13, Try.ntmps13
  go_wp2_with fail
  refine (qcheck_c { r with open_ := false } _ ?_).mono ?_
  · exact RideS.ok_below (by repeat (first | with_reducible exact (Below.refl _ _) | with_reducible refine Below.setCell ?_ ?_ _ | with_reducible refine Below.alloc ?_ ?_ _ | with_reducible refine Below.drew ?_ | with_reducible refine below_drewN ?_ _ | omega | (simp <;> omega))) HH.out
  rintro e w1 ⟨rfl, hb⟩
  obtain ⟨hc1, hz1⟩ := bcell hb
  have hs1 := hb.size
  try simp at hs1
  have hqw_1 : w.heap.size < w1.heap.size := by omega
  have hqw_1_1 : w.heap.size + 1 < w1.heap.size := by omega
  have hqw_2_1 : w.heap.size + 2 < w1.heap.size := by omega
  have HW1 : Hid (Below w.heap.size w w1) := (show Below w.heap.size w _ by repeat (first | with_reducible exact (Below.refl _ _) | with_reducible refine Below.setCell ?_ ?_ _ | with_reducible refine Below.alloc ?_ ?_ _ | with_reducible refine Below.drew ?_ | with_reducible refine below_drewN ?_ _ | omega | (simp <;> omega))).trans (hb.mono (by first | omega | (simp <;> omega)))
  clear hb
  obtain ⟨he1, hef1⟩ := bcell HW1.out
  by_cases hck : checkL { r with open_ := false } = 0
  rotate_left
  · have hV := hide (show narrowL { r with open_ := false } e = (zeroR, checkL { r with open_ := false }) by rw [narrowL, if_pos hck])
    have d1 : (checkL { r with open_ := false } != 0) = true := by rw [bne_iff_ne]; exact hck
    generalize checkL { r with open_ := false } = ck at *
    go_wp2
    refine bodyPost_ret (v := .tuple #[RV zeroR, .int .i64 ck]) (by simp [results, Try.results13, go_sem, zeroR, *]) rfl (NarPost.err ?_ hV.out)
    repeat (first | with_reducible exact (HW1.out) | with_reducible refine Below.setCell ?_ ?_ _ | with_reducible refine Below.alloc ?_ ?_ _ | with_reducible refine Below.drew ?_ | with_reducible refine below_drewN ?_ _ | omega | (simp <;> omega))
  have HCK := hide hck
  have d1 : (checkL { r with open_ := false } != 0) = false := by rw [hck]; rfl
  clear hck
  have HWP := HW1
  by_cases hE : e.ride = r.id
  rotate_left
  · have d2 : (e.ride != r.id) = true := by rw [bne_iff_ne]; exact hE
    have hV := hide (show narrowL { r with open_ := false } e = (zeroR, 7) by rw [narrowL, if_neg (show ¬ checkL { r with open_ := false } ≠ 0 by simp [HCK.out]), if_pos hE])
    go_wp2
    refine bodyPost_ret (v := .tuple #[RV zeroR, .int .i64 7]) (by simp [results, Try.results13, go_sem, zeroR, *]) rfl (NarPost.err ?_ hV.out)
    repeat (first | with_reducible exact (HWP.out) | with_reducible refine Below.setCell ?_ ?_ _ | with_reducible refine Below.alloc ?_ ?_ _ | with_reducible refine Below.drew ?_ | with_reducible refine below_drewN ?_ _ | omega | (simp <;> omega))
  have d2 : (e.ride != r.id) = false := by rw [hE]; exact bne_self_eq_false _
  have HE := hide hE; clear hE
  go_wp2_with fail
  refine (right_c e _).mono ?_
  rintro e w2 ⟨rfl, hb⟩
  obtain ⟨hc2, hz2⟩ := bcell hb
  have hs2 := hb.size
  try simp at hs2
  have hqw_2 : w.heap.size < w2.heap.size := by omega
  have hqw_1_2 : w.heap.size + 1 < w2.heap.size := by omega
  have hqw_2_2 : w.heap.size + 2 < w2.heap.size := by omega
  have hps := (HW1.out).size
  have HW2 : Hid (Below w.heap.size w w2) := (show Below w.heap.size w _ by repeat (first | with_reducible exact (HW1.out) | with_reducible refine Below.setCell ?_ ?_ _ | with_reducible refine Below.alloc ?_ ?_ _ | with_reducible refine Below.drew ?_ | with_reducible refine below_drewN ?_ _ | omega | (simp <;> omega))).trans (hb.mono (by first | omega | (simp <;> omega)))
  clear hb hps
  obtain ⟨he2, hef2⟩ := bcell HW2.out
  clear HWP
  have HWP := HW2
  cases h : validL e.end_
  · have HVL := hide h
    have hV := hide (show narrowL { r with open_ := false } e = (zeroR, 1) by rw [narrowL, if_neg (show ¬ checkL { r with open_ := false } ≠ 0 by simp [HCK.out]), if_neg (not_not_intro HE.out), if_neg Bool.false_ne_true, if_pos HVL.out])
    go_wp2
    refine bodyPost_ret (v := .tuple #[RV zeroR, .int .i64 1]) (by simp [results, Try.results13, go_sem, zeroR, *]) rfl (NarPost.err ?_ hV.out)
    repeat (first | with_reducible exact (HWP.out) | with_reducible refine Below.setCell ?_ ?_ _ | with_reducible refine Below.alloc ?_ ?_ _ | with_reducible refine Below.drew ?_ | with_reducible refine below_drewN ?_ _ | omega | (simp <;> omega))
  have HVL := hide h
  have HCO := hide (common_ok HH.out.2.2.2.1 HEE.out.2)
  have HN := hide (show narrowL { r with open_ := false } e = (if (commonL r.end_ e.end_).hi < (commonL r.end_ e.end_).lo then (zeroR, 34) else ({ (RideS.norm { r with open_ := false }) with end_ := commonL r.end_ e.end_, legs := r.legs.modify (r.legs.length - 1) (fun x => { x with to_ := commonL r.end_ e.end_ }) }, 0)) by rw [narrowL, if_neg (show ¬ checkL { r with open_ := false } ≠ 0 by simp [HCK.out]), if_neg (not_not_intro HE.out), if_neg Bool.false_ne_true, if_neg (by rw [HVL.out]; exact Bool.noConfusion)])
  have hmx : (if r.end_.lo < e.end_.lo then e.end_.lo else r.end_.lo) = (commonL r.end_ e.end_).lo := by simp only [commonL]; split <;> omega
  have hmn : (if e.end_.hi < r.end_.hi then e.end_.hi else r.end_.hi) = (commonL r.end_ e.end_).hi := by simp only [commonL]; split <;> omega
  generalize commonL r.end_ e.end_ = c at *
  by_cases hI : c.hi < c.lo
  · have hV := hide (show narrowL { r with open_ := false } e = (zeroR, 34) by rw [HN.out, if_pos hI])
    go_wp2
    refine bodyPost_ret (v := .tuple #[RV zeroR, .int .i64 34]) (by simp [results, Try.results13, go_sem, zeroR, *]) rfl (NarPost.err ?_ hV.out)
    repeat (first | with_reducible exact (HWP.out) | with_reducible refine Below.setCell ?_ ?_ _ | with_reducible refine Below.alloc ?_ ?_ _ | with_reducible refine Below.drew ?_ | with_reducible refine below_drewN ?_ _ | omega | (simp <;> omega))
  have hV := hide (show narrowL { r with open_ := false } e = ({ (RideS.norm { r with open_ := false }) with end_ := c, legs := r.legs.modify (r.legs.length - 1) (fun x => { x with to_ := c }) }, 0) by rw [HN.out, if_neg hI])
  clear HN
  have hcl := check_lens HCK.out
  simp only at hcl
  obtain ⟨m, hm⟩ : ∃ m, m + 1 = r.legs.length := ⟨r.legs.length - 1, by omega⟩
  go_wp2_with fail
  refine (copy_c { r with open_ := false } _ ?_ (by simp only; omega) (by simp only; omega)).mono ?_
  · exact RideS.ok_below (by repeat (first | with_reducible exact (HW2.out) | with_reducible refine Below.setCell ?_ ?_ _ | with_reducible refine Below.alloc ?_ ?_ _ | with_reducible refine Below.drew ?_ | with_reducible refine below_drewN ?_ _ | omega | (simp <;> omega))) HH.out
  rintro e w3 ⟨a1, c1, a2, c2, B2, rfl, hb, hB2, ho1, hlt, ho2⟩
  obtain ⟨hc3, hz3⟩ := bcell hb
  have hs3 := hb.size
  try simp at hs3
  have hqw_3 : w.heap.size < w3.heap.size := by omega
  have hqw_1_3 : w.heap.size + 1 < w3.heap.size := by omega
  have hqw_2_3 : w.heap.size + 2 < w3.heap.size := by omega
  have hqw2_3 : w2.heap.size < w3.heap.size := by omega
  have hps := (HW2.out).size
  have HW3 : Hid (Below w.heap.size w w3) := (show Below w.heap.size w _ by repeat (first | with_reducible exact (HW2.out) | with_reducible refine Below.setCell ?_ ?_ _ | with_reducible refine Below.alloc ?_ ?_ _ | with_reducible refine Below.drew ?_ | with_reducible refine below_drewN ?_ _ | omega | (simp <;> omega))).trans (hb.mono (by first | omega | (simp <;> omega)))
  clear hb hps
  obtain ⟨he3, hef3⟩ := bcell HW3.out
  simp only at ho1 ho2 hlt
  obtain ⟨g, hg, hg1, hg2⟩ := own_some ho1 (by omega)
  subst hg
  simp at hg1 hB2
  have HLT := hide (hlt g rfl); clear hlt
  have q3 := ho1.cellAt (m * 5 + 3) (by omega)
  have q4 := ho1.cellAt (m * 5 + 4) (by omega)
  have z3 := ho1.frozenAt (m * 5 + 3)
  have z4 := ho1.frozenAt (m * 5 + 4)
  have hfl := LegS.flat_len r.legs
  rw [List.getElem?_eq_getElem (by omega)] at q3 q4
  generalize (LegS.flat r.legs)[m * 5 + 3] = y3 at *
  generalize (LegS.flat r.legs)[m * 5 + 4] = y4 at *
  have HO1 := hide ho1; have HO2 := hide ho2; clear ho1 ho2 hfl
  have hwr : IntKind.i64.wrap ((r.legs.length : Int) - 1) = m := by rw [IntWalk.i64_in _ (by omega)]; omega
  have hmm : (m : Int) < (r.legs.length : Int) := by omega
  have hml : m < r.legs.length := by omega
  have HM := hide hm; clear hm
  clear hcl
  have hltB := HLT.out
  have HST : ∀ o, Hid ((((w3.alloc o).setCell ⟨g, m * 5 + 3, none⟩ (.int .i64 c.lo)).setCell ⟨g, m * 5 + 3 + 1, none⟩ (.int .i64 c.hi)).ownsRow (w2.heap.size + 1) 47 5 (Value.slice (some ⟨g, 0, none⟩) r.legs.length c1) r.legs.length (LegS.flat (r.legs.modify m fun x => { x with to_ := c }))) := fun o => by
    have h := ((((HO1.out.alloc o).stored (m * 5 + 3) (.int .i64 c.lo)).1).stored (m * 5 + 4) (.int .i64 c.hi)).1
    rw [flat_setTo c r.legs m hml] at h
    exact ownsRow_mono h (by simp)
  have HST2 : Hid (((w3.setCell ⟨g, m * 5 + 3, none⟩ (.int .i64 c.lo)).setCell ⟨g, m * 5 + 3 + 1, none⟩ (.int .i64 c.hi)).ownsRow (w2.heap.size + 1) 47 5 (Value.slice (some ⟨g, 0, none⟩) r.legs.length c1) r.legs.length (LegS.flat (r.legs.modify m fun x => { x with to_ := c }))) := by
    have h := (((HO1.out.stored (m * 5 + 3) (.int .i64 c.lo)).1).stored (m * 5 + 4) (.int .i64 c.hi)).1
    rw [flat_setTo c r.legs m hml] at h
    exact ownsRow_mono h (by simp)
  have hV := hide (hV.out.trans (show _ = (({ (RideS.norm { r with open_ := false }) with end_ := c, legs := r.legs.modify m (fun x => { x with to_ := c }) } : RideS), (0 : Int)) by rw [show r.legs.length - 1 = m by have := HM.out; omega]))
  skip
  go_wp2
  refine bodyPost_ret (v := .tuple #[RV { { r with open_ := false } with end_ := c, legs := r.legs.modify m (fun x => { x with to_ := c }), legsA := some ⟨g, 0, none⟩, legsC := c1, pausesA := a2, pausesC := c2 }, .int .i64 0]) (by simp [results, Try.results13, go_sem, *]) rfl (NarPost.fin (r := { r with open_ := false }) (B := w2.heap.size + 1) (B2 := B2) ?_ HH.out ?_ ?_ ?_ ?_ HCO.out hV.out)
  · repeat (first | with_reducible exact (HW3.out) | with_reducible refine Below.setCell ?_ ?_ _ | with_reducible refine Below.alloc ?_ ?_ _ | with_reducible refine Below.drew ?_ | with_reducible refine below_drewN ?_ _ | omega | (simp <;> omega))
  · omega
  · omega
  · try dsimp only
    repeat (first | with_reducible exact (HST _).out | with_reducible exact HST2.out | with_reducible refine ownsRow_setCell ?_ _ _ ?_ | with_reducible refine World.ownsRow.alloc ?_ _ | (simp <;> omega) | (simp only <;> omega) | (show _ < _; omega))
  · try dsimp only
    repeat (first | with_reducible exact HO2.out | with_reducible refine ownsRow_setCell ?_ _ _ ?_ | with_reducible refine World.ownsRow.alloc ?_ _ | (simp <;> omega) | (simp only <;> omega) | (show _ < _; omega))
theorem qnarrow_c (r : RideS) (e : EvS) (w : World) (H : RideS.ok w r) (HE : EvS.ok w e) : Calls Try.prog 13 #[RV r, EV e] w (NarPost w (narrowL r e)) := by
  cases hO : r.open_ with
  | true =>
    have h : r = { r with open_ := true } := by rw [← hO]
    rw [h] at H ⊢
    exact qnarrow_open r e w H HE
  | false =>
    have h : r = { r with open_ := false } := by rw [← hO]
    rw [h] at H ⊢
    exact qnarrow_closed r e w H HE


end Go.Proofs.Ytfpdhalfkfffnaa
