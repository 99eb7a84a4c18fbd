import Derived.Test.YtfpdhalfkfffnaaVd
namespace Go.Proofs.Ytfpdhalfkfffnaa
open Go.RowKit
set_option linter.unusedVariables false
set_option linter.unusedSimpArgs false
set_option linter.unnecessarySimpa false

def zeroR : RideS := ⟨0, 0, ⟨0, 0⟩, ⟨0, 0⟩, false, none, 0, [], none, 0, [], 0, 0, 0, 0⟩
theorem zeroR_ok (w : World) : RideS.ok w zeroR := by
  have hz : I64 0 := ⟨by decide, by decide⟩
  exact ⟨hz, hz, ⟨hz, hz⟩, ⟨hz, hz⟩, ⟨Nat.le_refl _, Nat.zero_le _, fun _ => rfl, fun h => absurd h (Nat.lt_irrefl 0), fun x hx => by cases hx⟩, ⟨Nat.le_refl _, Nat.zero_le _, fun _ => rfl, fun h => absurd h (Nat.lt_irrefl 0), fun x hx => by cases hx⟩, hz, hz, hz, hz⟩
noncomputable def narrowL (r : RideS) (e : EvS) : RideS × Int :=
  if checkL r ≠ 0 then (zeroR, checkL r) else if e.ride ≠ r.id then (zeroR, 7) else if r.open_ = true then (zeroR, 26) else if validL e.end_ = false then (zeroR, 1)
  else if (commonL r.end_ e.end_).hi < (commonL r.end_ e.end_).lo then (zeroR, 34)
  else ({ r.norm with end_ := commonL r.end_ e.end_, legs := r.legs.modify (r.legs.length - 1) (fun x => { x with to_ := commonL r.end_ e.end_ }) }, 0)
/-- The lists of a ride lie in blocks from B on. -/
def RideS.from_ (B : Nat) (x : RideS) : Prop := (∀ a, x.legsA = some a → B ≤ a.block) ∧ (∀ a, x.pausesA = some a → B ≤ a.block)
/-- .. and in blocks that are there. -/
def RideS.in_ (w : World) (x : RideS) : Prop := ∀ a, (x.legsA = some a ∨ x.pausesA = some a) → a.block < w.heap.size
def NarPost (w : World) (p : RideS × Int) (e : Ending) (w' : World) : Prop :=
  ∃ x : RideS, e = .returned (.tuple #[RV x, .int .i64 p.2]) ∧ Below w.heap.size w w' ∧ x.norm = p.1 ∧ RideS.ok w' x ∧ RideS.from_ w.heap.size x ∧ RideS.in_ w' x
theorem own_from {w : World} {B n c : Nat} {a : Option Addr} {e : TypeId} {size : Nat} {xs : List Value} (h : w.ownsRow B e size (.slice a n c) n xs) : ∀ x, a = some x → B ≤ x.block := by
  intro x hx
  rcases h.2 with ⟨h1, _⟩ | ⟨g, cap, cur, hv, hg, hh, _⟩
  · simp only [Value.slice.injEq] at h1; rw [h1.1] at hx; cases hx
  · simp only [Value.slice.injEq] at hv; rw [hv.1] at hx; cases hx; exact hg
theorem own_lt {w : World} {B n c : Nat} {a : Option Addr} {e : TypeId} {size : Nat} {xs : List Value} (h : w.ownsRow B e size (.slice a n c) n xs) : ∀ x, a = some x → x.block < w.heap.size := by
  intro x hx
  rcases h.2 with ⟨h1, _⟩ | ⟨g, cap, cur, hv, hg, hh, _⟩
  · simp only [Value.slice.injEq] at h1; rw [h1.1] at hx; cases hx
  · simp only [Value.slice.injEq] at hv; rw [hv.1] at hx; cases hx; exact (Array.getElem?_eq_some_iff.1 hh).1
theorem NarPost.err {w w' : World} {p : RideS × Int} {k : Int} (hb : Below w.heap.size w w') (hn : p = (zeroR, k)) : NarPost w p (.returned (.tuple #[RV zeroR, .int .i64 k])) w' := by
  subst hn; exact ⟨zeroR, rfl, hb, rfl, zeroR_ok _, ⟨(fun a h => by cases h), (fun a h => by cases h)⟩, (fun a h => by rcases h with h | h <;> cases h)⟩
@[reducible] def EV (e : EvS) : Value := .agg #[.int .i64 e.ride, .int .i64 e.end_.lo, .int .i64 e.end_.hi]
theorem flat_setTo (c : SpanS) : ∀ (l : List LegS) (m : Nat), m < l.length → ((LegS.flat l).set (m * 5 + 3) (.int .i64 c.lo)).set (m * 5 + 4) (.int .i64 c.hi) = LegS.flat (l.modify m fun x => { x with to_ := c })
  | [], m, h => by simp at h
  | x :: l, 0, h => by simp [LegS.flat_cons]
  | x :: l, m + 1, h => by
    have := flat_setTo c l m (by simpa using h)
    rw [List.modify_succ_cons, LegS.flat_cons, LegS.flat_cons, ← this]
    rw [show (m + 1) * 5 + 3 = m * 5 + 3 + 5 by omega, show (m + 1) * 5 + 4 = m * 5 + 4 + 5 by omega]
    simp [LegS.vals]
theorem common_ok {w : World} {a b : SpanS} (ha : SpanS.ok w a) (hb : SpanS.ok w b) : SpanS.ok w (commonL a b) := by
  obtain ⟨⟨a1, a2⟩, a3, a4⟩ := ha
  obtain ⟨⟨b1, b2⟩, b3, b4⟩ := hb
  simp only [SpanS.ok, commonL, I64]
  omega
theorem mem_modify {l : List LegS} {m : Nat} {f : LegS → LegS} {x : LegS} (h : x ∈ l.modify m f) : x ∈ l ∨ ∃ y ∈ l, x = f y := by
  obtain ⟨j, hj, rfl⟩ := List.getElem_of_mem h
  rw [List.getElem_modify]
  have hj2 : j < l.length := by simpa using hj
  split
  · exact .inr ⟨l[j], List.getElem_mem _, rfl⟩
  · exact .inl (List.getElem_mem _)
theorem NarPost.fin {w W : World} {r : RideS} {p : RideS × Int} {B B2 m : Nat} {a1 a2 : Option Addr} {c1 c2 : Nat} {c : SpanS} (hb : Below w.heap.size w W) (H : RideS.ok w r) (hB : w.heap.size ≤ B) (hB2 : w.heap.size ≤ B2)
    (h1 : W.ownsRow B 47 5 (.slice a1 r.legs.length c1) r.legs.length (LegS.flat (r.legs.modify m fun x => { x with to_ := c }))) (h2 : W.ownsRow B2 62 4 (.slice a2 r.pauses.length c2) r.pauses.length (PauseS.flat r.pauses)) (hc : SpanS.ok w c)
    (hp : p = ({ r.norm with end_ := c, legs := r.legs.modify m fun x => { x with to_ := c } }, 0)) :
    NarPost w p (.returned (.tuple #[RV { r with end_ := c, legs := r.legs.modify m (fun x => { x with to_ := c }), legsA := a1, legsC := c1, pausesA := a2, pausesC := c2 }, .int .i64 0])) W := by
  subst hp
  obtain ⟨g1, g2, g3, g4, gL, gP, g5⟩ := RideS.ok_below hb H
  refine ⟨_, rfl, hb, rfl, ⟨g1, g2, g3, SpanS.ok_below hb hc, LegS.sl_of_own (B := B) (e := 47) (by simpa using h1) ?_, PauseS.sl_of_own h2 (fun x hx => gP.2.2.2.2 x hx), g5⟩, ⟨fun a h => Nat.le_trans hB (own_from h1 a h), fun a h => Nat.le_trans hB2 (own_from h2 a h)⟩, fun a h => by rcases h with h | h; exact own_lt h1 a h; exact own_lt h2 a h⟩
  intro x hx
  rcases mem_modify hx with h | ⟨y, hy, rfl⟩
  · exact gL.2.2.2.2 x h
  · obtain ⟨q1, q2, q3⟩ := gL.2.2.2.2 y hy
    exact ⟨q1, q2, SpanS.ok_below hb hc⟩
theorem check_lens {r : RideS} (h : checkL r = 0) : 1 ≤ r.legs.length ∧ r.legs.length ≤ 512 ∧ r.pauses.length ≤ 512 := by
  have hj : joinedL r = true := by
    rw [← Bool.not_eq_false]; intro hj
    unfold checkL at h
    rw [if_pos hj] at h
    split at h <;> omega
  simp only [joinedL, lensL, Bool.and_eq_true, decide_eq_true_eq] at hj
  omega
theorem own_some {w : World} {B n c : Nat} {a : Option Addr} {e : TypeId} {size : Nat} {xs : List Value} (h : w.ownsRow B e size (.slice a n c) n xs) (hn : 0 < n) : ∃ g, a = some ⟨g, 0, none⟩ ∧ B ≤ g ∧ g < w.heap.size := by
  rcases h.2 with ⟨_, h2⟩ | ⟨g, cap, cur, hv, hg, hh, _⟩
  · omega
  · simp only [Value.slice.injEq] at hv
    exact ⟨g, hv.1, hg, (Array.getElem?_eq_some_iff.1 hh).1⟩
set_option maxRecDepth 100000 in
set_option maxHeartbeats 4000000 in
theorem narrow_open (r : RideS) (e : EvS) (w : World) (H : RideS.ok w { r with open_ := true }) (HE : EvS.ok w e) : Calls Try.prog 12 #[RV { r with open_ := true }, EV e] w (NarPost w (narrowL { r with open_ := true } e)) := by
  have HH := hide H; clear H
  have HEE := hide HE; clear HE
  go_enter Try.func12, Try.ntmps12
  go_wp2_with fail
  refine (rcheck_c { r with open_ := true } _ ?_).mono ?_
  · exact RideS.ok_below (by repeat (first | with_reducible exact (Below.refl _ _) | with_reducible refine Below.setCell ?_ ?_ _ | with_reducible refine Below.alloc ?_ ?_ _ | with_reducible refine Below.drew ?_ | with_reducible refine below_drewN ?_ _ | omega | (simp <;> omega))) HH.out
  rintro e w1 ⟨rfl, hb⟩
  obtain ⟨hc1, hz1⟩ := bcell hb
  have hs1 := hb.size
  try simp at hs1
  have hqw_1 : w.heap.size < w1.heap.size := by omega
  have hqw_1_1 : w.heap.size + 1 < w1.heap.size := by omega
  have hqw_2_1 : w.heap.size + 2 < w1.heap.size := by omega
  have HW1 : Hid (Below w.heap.size w w1) := (show Below w.heap.size w _ by repeat (first | with_reducible exact (Below.refl _ _) | with_reducible refine Below.setCell ?_ ?_ _ | with_reducible refine Below.alloc ?_ ?_ _ | with_reducible refine Below.drew ?_ | with_reducible refine below_drewN ?_ _ | omega | (simp <;> omega))).trans (hb.mono (by first | omega | (simp <;> omega)))
  clear hb
  obtain ⟨he1, hef1⟩ := bcell HW1.out
  by_cases hck : checkL { r with open_ := true } = 0
  rotate_left
  · have hV := hide (show narrowL { r with open_ := true } e = (zeroR, checkL { r with open_ := true }) by rw [narrowL, if_pos hck])
    have d1 : (checkL { r with open_ := true } != 0) = true := by rw [bne_iff_ne]; exact hck
    generalize checkL { r with open_ := true } = ck at *
    go_wp2
    refine bodyPost_ret (v := .tuple #[RV zeroR, .int .i64 ck]) (by simp [results, Try.results12, go_sem, zeroR, *]) rfl (NarPost.err ?_ hV.out)
    repeat (first | with_reducible exact (HW1.out) | with_reducible refine Below.setCell ?_ ?_ _ | with_reducible refine Below.alloc ?_ ?_ _ | with_reducible refine Below.drew ?_ | with_reducible refine below_drewN ?_ _ | omega | (simp <;> omega))
  have HCK := hide hck
  have d1 : (checkL { r with open_ := true } != 0) = false := by rw [hck]; rfl
  clear hck
  go_wp2_with fail
  refine (common_c _ _ _).mono ?_
  rintro e w2 ⟨rfl, hb⟩
  obtain ⟨hc2, hz2⟩ := bcell hb
  have hs2 := hb.size
  try simp at hs2
  have hqw_2 : w.heap.size < w2.heap.size := by omega
  have hqw_1_2 : w.heap.size + 1 < w2.heap.size := by omega
  have hqw_2_2 : w.heap.size + 2 < w2.heap.size := by omega
  have hps := (HW1.out).size
  have HW2 : Hid (Below w.heap.size w w2) := (show Below w.heap.size w _ by repeat (first | with_reducible exact (HW1.out) | with_reducible refine Below.setCell ?_ ?_ _ | with_reducible refine Below.alloc ?_ ?_ _ | with_reducible refine Below.drew ?_ | with_reducible refine below_drewN ?_ _ | omega | (simp <;> omega))).trans (hb.mono (by first | omega | (simp <;> omega)))
  clear hb hps
  obtain ⟨he2, hef2⟩ := bcell HW2.out
  have HWP := HW2
  by_cases hE : e.ride = r.id
  rotate_left
  · have d2 : (e.ride != r.id) = true := by rw [bne_iff_ne]; exact hE
    have hV := hide (show narrowL { r with open_ := true } e = (zeroR, 7) by rw [narrowL, if_neg (show ¬ checkL { r with open_ := true } ≠ 0 by simp [HCK.out]), if_pos hE])
    go_wp2
    refine bodyPost_ret (v := .tuple #[RV zeroR, .int .i64 7]) (by simp [results, Try.results12, go_sem, zeroR, *]) rfl (NarPost.err ?_ hV.out)
    repeat (first | with_reducible exact (HWP.out) | with_reducible refine Below.setCell ?_ ?_ _ | with_reducible refine Below.alloc ?_ ?_ _ | with_reducible refine Below.drew ?_ | with_reducible refine below_drewN ?_ _ | omega | (simp <;> omega))
  have d2 : (e.ride != r.id) = false := by rw [hE]; exact bne_self_eq_false _
  have HE := hide hE; clear hE
  have hV := hide (show narrowL { r with open_ := true } e = (zeroR, 26) by rw [narrowL, if_neg (show ¬ checkL { r with open_ := true } ≠ 0 by simp [HCK.out]), if_neg (not_not_intro HE.out), if_pos rfl])
  go_wp2
  refine bodyPost_ret (v := .tuple #[RV zeroR, .int .i64 26]) (by simp [results, Try.results12, go_sem, zeroR, *]) rfl (NarPost.err ?_ hV.out)
  repeat (first | with_reducible exact (HWP.out) | with_reducible refine Below.setCell ?_ ?_ _ | with_reducible refine Below.alloc ?_ ?_ _ | with_reducible refine Below.drew ?_ | with_reducible refine below_drewN ?_ _ | omega | (simp <;> omega))
set_option maxRecDepth 100000 in
set_option maxHeartbeats 4000000 in
theorem narrow_closed (r : RideS) (e : EvS) (w : World) (H : RideS.ok w { r with open_ := false }) (HE : EvS.ok w e) : Calls Try.prog 12 #[RV { r with open_ := false }, EV e] w (NarPost w (narrowL { r with open_ := false } e)) := by
  have HH := hide H; clear H
  have HEE := hide HE; clear HE
  go_enter Try.func12, Try.ntmps12
  go_wp2_with fail
  refine (rcheck_c { r with open_ := false } _ ?_).mono ?_
  · exact RideS.ok_below (by repeat (first | with_reducible exact (Below.refl _ _) | with_reducible refine Below.setCell ?_ ?_ _ | with_reducible refine Below.alloc ?_ ?_ _ | with_reducible refine Below.drew ?_ | with_reducible refine below_drewN ?_ _ | omega | (simp <;> omega))) HH.out
  rintro e w1 ⟨rfl, hb⟩
  obtain ⟨hc1, hz1⟩ := bcell hb
  have hs1 := hb.size
  try simp at hs1
  have hqw_1 : w.heap.size < w1.heap.size := by omega
  have hqw_1_1 : w.heap.size + 1 < w1.heap.size := by omega
  have hqw_2_1 : w.heap.size + 2 < w1.heap.size := by omega
  have HW1 : Hid (Below w.heap.size w w1) := (show Below w.heap.size w _ by repeat (first | with_reducible exact (Below.refl _ _) | with_reducible refine Below.setCell ?_ ?_ _ | with_reducible refine Below.alloc ?_ ?_ _ | with_reducible refine Below.drew ?_ | with_reducible refine below_drewN ?_ _ | omega | (simp <;> omega))).trans (hb.mono (by first | omega | (simp <;> omega)))
  clear hb
  obtain ⟨he1, hef1⟩ := bcell HW1.out
  by_cases hck : checkL { r with open_ := false } = 0
  rotate_left
  · have hV := hide (show narrowL { r with open_ := false } e = (zeroR, checkL { r with open_ := false }) by rw [narrowL, if_pos hck])
    have d1 : (checkL { r with open_ := false } != 0) = true := by rw [bne_iff_ne]; exact hck
    generalize checkL { r with open_ := false } = ck at *
    go_wp2
    refine bodyPost_ret (v := .tuple #[RV zeroR, .int .i64 ck]) (by simp [results, Try.results12, go_sem, zeroR, *]) rfl (NarPost.err ?_ hV.out)
    repeat (first | with_reducible exact (HW1.out) | with_reducible refine Below.setCell ?_ ?_ _ | with_reducible refine Below.alloc ?_ ?_ _ | with_reducible refine Below.drew ?_ | with_reducible refine below_drewN ?_ _ | omega | (simp <;> omega))
  have HCK := hide hck
  have d1 : (checkL { r with open_ := false } != 0) = false := by rw [hck]; rfl
  clear hck
  go_wp2_with fail
  refine (common_c _ _ _).mono ?_
  rintro e w2 ⟨rfl, hb⟩
  obtain ⟨hc2, hz2⟩ := bcell hb
  have hs2 := hb.size
  try simp at hs2
  have hqw_2 : w.heap.size < w2.heap.size := by omega
  have hqw_1_2 : w.heap.size + 1 < w2.heap.size := by omega
  have hqw_2_2 : w.heap.size + 2 < w2.heap.size := by omega
  have hps := (HW1.out).size
  have HW2 : Hid (Below w.heap.size w w2) := (show Below w.heap.size w _ by repeat (first | with_reducible exact (HW1.out) | with_reducible refine Below.setCell ?_ ?_ _ | with_reducible refine Below.alloc ?_ ?_ _ | with_reducible refine Below.drew ?_ | with_reducible refine below_drewN ?_ _ | omega | (simp <;> omega))).trans (hb.mono (by first | omega | (simp <;> omega)))
  clear hb hps
  obtain ⟨he2, hef2⟩ := bcell HW2.out
  have HWP := HW2
  by_cases hE : e.ride = r.id
  rotate_left
  · have d2 : (e.ride != r.id) = true := by rw [bne_iff_ne]; exact hE
    have hV := hide (show narrowL { r with open_ := false } e = (zeroR, 7) by rw [narrowL, if_neg (show ¬ checkL { r with open_ := false } ≠ 0 by simp [HCK.out]), if_pos hE])
    go_wp2
    refine bodyPost_ret (v := .tuple #[RV zeroR, .int .i64 7]) (by simp [results, Try.results12, go_sem, zeroR, *]) rfl (NarPost.err ?_ hV.out)
    repeat (first | with_reducible exact (HWP.out) | with_reducible refine Below.setCell ?_ ?_ _ | with_reducible refine Below.alloc ?_ ?_ _ | with_reducible refine Below.drew ?_ | with_reducible refine below_drewN ?_ _ | omega | (simp <;> omega))
  have d2 : (e.ride != r.id) = false := by rw [hE]; exact bne_self_eq_false _
  have HE := hide hE; clear hE
  rcases valid_cases e.end_ with ⟨h, h1⟩ | ⟨h, h1, h2⟩ | ⟨h, h1, h2, h3⟩ | ⟨h, h1, h2, h3⟩
  · have HVL := hide h; clear h
    have v1 : decide (e.end_.lo < 0) = true := by rw [decide_eq_true_eq]; omega
    have hV := hide (show narrowL { r with open_ := false } e = (zeroR, 1) by rw [narrowL, if_neg (show ¬ checkL { r with open_ := false } ≠ 0 by simp [HCK.out]), if_neg (not_not_intro HE.out), if_neg Bool.false_ne_true, if_pos HVL.out])
    go_wp2
    refine bodyPost_ret (v := .tuple #[RV zeroR, .int .i64 1]) (by simp [results, Try.results12, go_sem, zeroR, *]) rfl (NarPost.err ?_ hV.out)
    repeat (first | with_reducible exact (HWP.out) | with_reducible refine Below.setCell ?_ ?_ _ | with_reducible refine Below.alloc ?_ ?_ _ | with_reducible refine Below.drew ?_ | with_reducible refine below_drewN ?_ _ | omega | (simp <;> omega))
  · have HVL := hide h; clear h
    have v1 : decide (e.end_.lo < 0) = false := by rw [decide_eq_false_iff_not]; omega
    have v2 : decide (e.end_.hi < e.end_.lo) = true := by rw [decide_eq_true_eq]; omega
    have hV := hide (show narrowL { r with open_ := false } e = (zeroR, 1) by rw [narrowL, if_neg (show ¬ checkL { r with open_ := false } ≠ 0 by simp [HCK.out]), if_neg (not_not_intro HE.out), if_neg Bool.false_ne_true, if_pos HVL.out])
    go_wp2
    refine bodyPost_ret (v := .tuple #[RV zeroR, .int .i64 1]) (by simp [results, Try.results12, go_sem, zeroR, *]) rfl (NarPost.err ?_ hV.out)
    repeat (first | with_reducible exact (HWP.out) | with_reducible refine Below.setCell ?_ ?_ _ | with_reducible refine Below.alloc ?_ ?_ _ | with_reducible refine Below.drew ?_ | with_reducible refine below_drewN ?_ _ | omega | (simp <;> omega))
  · have HVL := hide h; clear h
    have v1 : decide (e.end_.lo < 0) = false := by rw [decide_eq_false_iff_not]; omega
    have v2 : decide (e.end_.hi < e.end_.lo) = false := by rw [decide_eq_false_iff_not]; omega
    have v3 : decide (4294943999 < e.end_.hi) = true := by rw [decide_eq_true_eq]; omega
    have hV := hide (show narrowL { r with open_ := false } e = (zeroR, 1) by rw [narrowL, if_neg (show ¬ checkL { r with open_ := false } ≠ 0 by simp [HCK.out]), if_neg (not_not_intro HE.out), if_neg Bool.false_ne_true, if_pos HVL.out])
    go_wp2
    refine bodyPost_ret (v := .tuple #[RV zeroR, .int .i64 1]) (by simp [results, Try.results12, go_sem, zeroR, *]) rfl (NarPost.err ?_ hV.out)
    repeat (first | with_reducible exact (HWP.out) | with_reducible refine Below.setCell ?_ ?_ _ | with_reducible refine Below.alloc ?_ ?_ _ | with_reducible refine Below.drew ?_ | with_reducible refine below_drewN ?_ _ | omega | (simp <;> omega))
  have HVL := hide h; clear h
  have v1 : decide (e.end_.lo < 0) = false := by rw [decide_eq_false_iff_not]; omega
  have v2 : decide (e.end_.hi < e.end_.lo) = false := by rw [decide_eq_false_iff_not]; omega
  have v3 : decide (4294943999 < e.end_.hi) = false := by rw [decide_eq_false_iff_not]; omega
  have HCO := hide (common_ok HH.out.2.2.2.1 HEE.out.2)
  have HN := hide (show narrowL { r with open_ := false } e = (if (commonL r.end_ e.end_).hi < (commonL r.end_ e.end_).lo then (zeroR, 34) else ({ (RideS.norm { r with open_ := false }) with end_ := commonL r.end_ e.end_, legs := r.legs.modify (r.legs.length - 1) (fun x => { x with to_ := commonL r.end_ e.end_ }) }, 0)) by rw [narrowL, if_neg (show ¬ checkL { r with open_ := false } ≠ 0 by simp [HCK.out]), if_neg (not_not_intro HE.out), if_neg Bool.false_ne_true, if_neg (by rw [HVL.out]; exact Bool.noConfusion)])
  generalize commonL r.end_ e.end_ = c at *
  by_cases hI : c.hi < c.lo
  · have hV := hide (show narrowL { r with open_ := false } e = (zeroR, 34) by rw [HN.out, if_pos hI])
    go_wp2
    refine bodyPost_ret (v := .tuple #[RV zeroR, .int .i64 34]) (by simp [results, Try.results12, go_sem, zeroR, *]) rfl (NarPost.err ?_ hV.out)
    repeat (first | with_reducible exact (HWP.out) | with_reducible refine Below.setCell ?_ ?_ _ | with_reducible refine Below.alloc ?_ ?_ _ | with_reducible refine Below.drew ?_ | with_reducible refine below_drewN ?_ _ | omega | (simp <;> omega))
  have hV := hide (show narrowL { r with open_ := false } e = ({ (RideS.norm { r with open_ := false }) with end_ := c, legs := r.legs.modify (r.legs.length - 1) (fun x => { x with to_ := c }) }, 0) by rw [HN.out, if_neg hI])
  clear HN
  have hcl := check_lens HCK.out
  simp only at hcl
  obtain ⟨m, hm⟩ : ∃ m, m + 1 = r.legs.length := ⟨r.legs.length - 1, by omega⟩
  go_wp2_with fail
  refine (own_c { r with open_ := false } _ ?_ (by simp only; omega) (by simp only; omega)).mono ?_
  · exact RideS.ok_below (by repeat (first | with_reducible exact (HW2.out) | with_reducible refine Below.setCell ?_ ?_ _ | with_reducible refine Below.alloc ?_ ?_ _ | with_reducible refine Below.drew ?_ | with_reducible refine below_drewN ?_ _ | omega | (simp <;> omega))) HH.out
  rintro e w3 ⟨a1, c1, a2, c2, B2, rfl, hb, hB2, ho1, hlt, ho2⟩
  obtain ⟨hc3, hz3⟩ := bcell hb
  have hs3 := hb.size
  try simp at hs3
  have hqw_3 : w.heap.size < w3.heap.size := by omega
  have hqw_1_3 : w.heap.size + 1 < w3.heap.size := by omega
  have hqw_2_3 : w.heap.size + 2 < w3.heap.size := by omega
  have hqw2_3 : w2.heap.size < w3.heap.size := by omega
  have hps := (HW2.out).size
  have HW3 : Hid (Below w.heap.size w w3) := (show Below w.heap.size w _ by repeat (first | with_reducible exact (HW2.out) | with_reducible refine Below.setCell ?_ ?_ _ | with_reducible refine Below.alloc ?_ ?_ _ | with_reducible refine Below.drew ?_ | with_reducible refine below_drewN ?_ _ | omega | (simp <;> omega))).trans (hb.mono (by first | omega | (simp <;> omega)))
  clear hb hps
  obtain ⟨he3, hef3⟩ := bcell HW3.out
  simp only at ho1 ho2 hlt
  obtain ⟨g, hg, hg1, hg2⟩ := own_some ho1 (by omega)
  subst hg
  simp at hg1 hB2
  have HLT := hide (hlt g rfl); clear hlt
  have q3 := ho1.cellAt (m * 5 + 3) (by omega)
  have q4 := ho1.cellAt (m * 5 + 4) (by omega)
  have z3 := ho1.frozenAt (m * 5 + 3)
  have z4 := ho1.frozenAt (m * 5 + 4)
  have hfl := LegS.flat_len r.legs
  rw [List.getElem?_eq_getElem (by omega)] at q3 q4
  generalize (LegS.flat r.legs)[m * 5 + 3] = y3 at *
  generalize (LegS.flat r.legs)[m * 5 + 4] = y4 at *
  have HO1 := hide ho1; have HO2 := hide ho2; clear ho1 ho2 hfl
  have hwr : IntKind.i64.wrap ((r.legs.length : Int) - 1) = m := by rw [IntWalk.i64_in _ (by omega)]; omega
  have hmm : (m : Int) < (r.legs.length : Int) := by omega
  have hml : m < r.legs.length := by omega
  have HM := hide hm; clear hm
  clear hcl
  have hltB := HLT.out
  have HST : ∀ o, Hid ((((w3.alloc o).setCell ⟨g, m * 5 + 3, none⟩ (.int .i64 c.lo)).setCell ⟨g, m * 5 + 3 + 1, none⟩ (.int .i64 c.hi)).ownsRow (w2.heap.size + 1) 47 5 (Value.slice (some ⟨g, 0, none⟩) r.legs.length c1) r.legs.length (LegS.flat (r.legs.modify m fun x => { x with to_ := c }))) := fun o => by
    have h := ((((HO1.out.alloc o).stored (m * 5 + 3) (.int .i64 c.lo)).1).stored (m * 5 + 4) (.int .i64 c.hi)).1
    rw [flat_setTo c r.legs m hml] at h
    exact ownsRow_mono h (by simp)
  have HST2 : Hid (((w3.setCell ⟨g, m * 5 + 3, none⟩ (.int .i64 c.lo)).setCell ⟨g, m * 5 + 3 + 1, none⟩ (.int .i64 c.hi)).ownsRow (w2.heap.size + 1) 47 5 (Value.slice (some ⟨g, 0, none⟩) r.legs.length c1) r.legs.length (LegS.flat (r.legs.modify m fun x => { x with to_ := c }))) := by
    have h := (((HO1.out.stored (m * 5 + 3) (.int .i64 c.lo)).1).stored (m * 5 + 4) (.int .i64 c.hi)).1
    rw [flat_setTo c r.legs m hml] at h
    exact ownsRow_mono h (by simp)
  have hV := hide (hV.out.trans (show _ = (({ (RideS.norm { r with open_ := false }) with end_ := c, legs := r.legs.modify m (fun x => { x with to_ := c }) } : RideS), (0 : Int)) by rw [show r.legs.length - 1 = m by have := HM.out; omega]))
  skip
  go_wp2
  refine bodyPost_ret (v := .tuple #[RV { { r with open_ := false } with end_ := c, legs := r.legs.modify m (fun x => { x with to_ := c }), legsA := some ⟨g, 0, none⟩, legsC := c1, pausesA := a2, pausesC := c2 }, .int .i64 0]) (by simp [results, Try.results12, go_sem, *]) rfl (NarPost.fin (r := { r with open_ := false }) (B := w2.heap.size + 1) (B2 := B2) ?_ HH.out ?_ ?_ ?_ ?_ HCO.out hV.out)
  · repeat (first | with_reducible exact (HW3.out) | with_reducible refine Below.setCell ?_ ?_ _ | with_reducible refine Below.alloc ?_ ?_ _ | with_reducible refine Below.drew ?_ | with_reducible refine below_drewN ?_ _ | omega | (simp <;> omega))
  · omega
  · omega
  · try dsimp only
    repeat (first | with_reducible exact (HST _).out | with_reducible exact HST2.out | with_reducible refine ownsRow_setCell ?_ _ _ ?_ | with_reducible refine World.ownsRow.alloc ?_ _ | (simp <;> omega) | (simp only <;> omega) | (show _ < _; omega))
  · try dsimp only
    repeat (first | with_reducible exact HO2.out | with_reducible refine ownsRow_setCell ?_ _ _ ?_ | with_reducible refine World.ownsRow.alloc ?_ _ | (simp <;> omega) | (simp only <;> omega) | (show _ < _; omega))


end Go.Proofs.Ytfpdhalfkfffnaa
