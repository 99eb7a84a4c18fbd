import Derived.Test.YtfpdhalfkfffnaaW7
import Derived.Deep.RegionLawGrows
namespace Go.Proofs.Ytfpdhalfkfffnaa
open Go.RowKit
set_option linter.unusedVariables false

/-- append on a slice that the call owns, as one step of a region that draws. -/
theorem step_append_own {P : Program} {ops : Array Oper} {o : Oper} {a : Act} {w : World} {K : Act → World → Prop} {Q : Exit → Act → World → Prop} {E : Prop}
    (hg : o.guard = none) (s x : Operand) (t : TypeId) (hop : o.op = Op.call { callee := Callee.builtin Builtin.append, args := #[s, x], argTypes := #[t, t] })
    (e : TypeId) (i : TypeInfo) (z : Value) (size bytes : Nat) (h1 : P.underlying t = some (.slice e)) (h2 : P.info? e = some i) (h3 : i.zero = some z) (h4 : i.size = size) (h5 : i.bytes = bytes) (h6 : z.cells.size = size) (h7 : 0 < size)
    (base : Nat) (v : Value) (n : Nat) (xs : List Value) (hs : a.eval s = v) (hown : w.ownsRow base e size v n xs)
    (ad : Addr) (m c : Nat) (news : List Value) (hx : a.eval x = .slice (some ad) m c) (hn : news.length = m * size) (hc : ∀ j u, news[j]? = some u → w.cell? (ad.add j) = some u) (h1c : ∀ u ∈ news, u.oneCell' = true)
    (b1 : n + m ≤ maxLen) (b2 : (n + m) * bytes ≤ 140737488355328) (hb : base ≤ w.heap.size)
    (hK : ∀ v' w', w'.ownsRow base e size v' (n + m) (xs ++ news) → w.grownBy w' v.ownBlock → K (a.put o.dst v') w') :
    if Region.wanted o (yielded ops a.tmps) = true then Oper.wp P o a w K Q else E := by
  have hw : Region.wanted o (yielded ops a.tmps) = true := by simp [Region.wanted, hg]
  rw [if_pos hw]
  obtain ⟨v', w', hrun, r1, r2, _⟩ := run_append_own (P := P) w base t o.type e i z size bytes h1 h2 h3 h4 h5 h6 h7 v n xs hown ad m c news hn hc h1c b1 b2 hb
  unfold Oper.wp
  simp [execOp, hop, resolve, invoke, builtin, hs, hx, hrun, Result.andThen]
  exact hK v' w' r1 r2

def marksOf (l : List PauseS) : List Int := l.flatMap fun p => [p.from_.lo, p.to_.lo]
def intV (l : List Int) : List Value := l.map fun x => .int .i64 x
theorem marks_len (l : List PauseS) : (marksOf l).length = 2 * l.length := by
  induction l with
  | nil => rfl
  | cons p l ih => simp [marksOf] at ih ⊢; omega
theorem marks_snoc (l : List PauseS) (k : Nat) (h : k < l.length) : marksOf (l.take (k+1)) = marksOf (l.take k) ++ [l[k].from_.lo, l[k].to_.lo] := by
  rw [List.take_succ_eq_append_getElem h]; unfold marksOf; rw [List.flatMap_append]; rfl
theorem intV_append (l m : List Int) : intV (l ++ m) = intV l ++ intV m := by simp [intV]
def marksL (r : RideS) : List Int := if 0 < (marksOf r.pauses).length ∧ r.open_ = true ∧ (marksOf r.pauses).getLast? = some 0 then (marksOf r.pauses).dropLast else marksOf r.pauses
def MarksPost (w : World) (r : RideS) (e : Ending) (w' : World) : Prop :=
  ∃ a cap, e = .returned (.slice a (marksL r).length cap) ∧ Below w.heap.size w w' ∧ SlI w' a cap (marksL r)
theorem info3 : (Try.prog.info? 3).map (fun i => (i.zero, i.size, i.bytes)) = some (some (.int .i64 0), 1, 8) := by kernel_rfl

set_option maxRecDepth 100000 in
set_option maxHeartbeats 1600000 in
theorem marks_c (r : RideS) (w : World) (H : RideS.ok w r) (hlim : r.pauses.length ≤ 512) : Calls Try.prog 45 #[RV r] w (MarksPost w r) := by
  obtain ⟨h1, h2, h3, h4, hL, hP, -⟩ := H
  clear h1 h2 h3 h4 hL
  obtain ⟨hp1, hp2, -, hP, hok⟩ := hP
  clear hp1 hp2
  obtain ⟨i0, hi, hz0, hz1, hz2⟩ := info_parts info3
  have HI := hide hi; have HZ0 := hide hz0; have HZ1 := hide hz1; have HZ2 := hide hz2
  clear hi hz0 hz1 hz2
  go_enter Try.func45, Try.ntmps45
  go_wp2_with fail
  go_loopw [4, 3] (fun i v wr => ∃ k : Nat, k ≤ r.pauses.length ∧ i = .int .i64 k ∧ Below (w.heap.size + 1) (w.alloc (Obj.cells #[Value.int IntKind.i64 r.id, Value.int IntKind.i64 r.rider, Value.int IntKind.i64 r.start.lo, Value.int IntKind.i64 r.start.hi, Value.int IntKind.i64 r.end_.lo, Value.int IntKind.i64 r.end_.hi, Value.bool r.open_, Value.slice r.legsA r.legs.length r.legsC, Value.slice r.pausesA r.pauses.length r.pausesC, Value.int IntKind.i64 r.fromWhere, Value.int IntKind.i64 r.fromPlace, Value.int IntKind.i64 r.where_, Value.int IntKind.i64 r.place] 27)) wr ∧ Hid (wr.ownsRow (w.heap.size + 1) 3 1 v (2 * k) (intV (marksOf (r.pauses.take k))))) (fun i v wr => r.pauses.length - (intOf i).toNat)
  case atStart => exact ⟨0, Nat.zero_le _, rfl, by repeat (first | with_reducible exact (Below.refl _ _) | with_reducible refine Below.setCell ?_ ?_ _ | with_reducible refine Below.alloc ?_ ?_ _ | with_reducible refine Below.drew ?_ | with_reducible refine below_drewN ?_ _ | omega | (simp <;> omega)), World.ownsRow_nil _ _ _ _⟩
  case round =>
    obtain ⟨k, hk, rfl, hb, hown⟩ := hrel
    obtain ⟨hc, hz⟩ := bcell hb
    have hs := hb.size
    simp at hs
    have hs1 : w.heap.size < w.heap.size + 1 := by omega
    have hs2 : w.heap.size < wr.heap.size := by omega
    have HB := hide hb; clear hb
    have HW : Hid (Below w.heap.size w wr) := ((Below.refl _ _).alloc (Nat.le_refl _) _).trans (HB.out.mono (by simp))
    by_cases hlt : k < r.pauses.length
    · obtain ⟨b, o, e0, hbw, hf⟩ := hP (by omega)
      have hbw1 : b < w.heap.size + 1 := by omega
      have hbw2 : b < wr.heap.size := by omega
      obtain ⟨f0, f1, f2, f3⟩ := hf k hlt
      have H0 := hide (marks_snoc r.pauses k hlt)
      generalize hfk : r.pauses[k] = f at *
      have H2 := hide hf; clear hf
      have H3 := hide hfk; clear hfk
      go_wp2
      go_region_law ((refine step_append_own rfl (.tmp 12) (.tmp 27) 39 rfl 3 i0 _ 1 8 Try.underlying39 HI.out HZ0.out HZ1.out HZ2.out rfl (by decide) (w.heap.size + 1) _ (2 * k) _ (by rfl) (by exact (World.ownsRow.alloc hown.out _)) ⟨wr.heap.size, 0, none⟩ 2 2 [.int .i64 f.from_.lo, .int .i64 f.to_.lo] (by rfl) rfl (by intro j u hj; rw [addr_add]; simpa using hj) (by intro u hu; simp at hu; rcases hu with rfl | rfl <;> rfl) (by unfold maxLen; omega) (by omega) (by first | omega | (simp <;> omega)) ?_; intro v3 w3 hown3 hgrow3; have HB3 := hide (show Below (w.heap.size + 1) wr w3 from Below.grown (by repeat (first | with_reducible exact Below.refl _ _ | with_reducible refine Below.setCell ?_ ?_ _ | with_reducible refine Below.alloc ?_ ?_ _ | with_reducible refine Below.drew ?_ | with_reducible refine below_drewN ?_ _ | omega | (simp <;> omega))) hgrow3 (by first | omega | (simp <;> omega)) (fun g hg => (hown.out.lt g hg).1)); rw [show intV (marksOf (r.pauses.take k)) ++ [.int .i64 f.from_.lo, .int .i64 f.to_.lo] = intV (marksOf (r.pauses.take (k+1))) by rw [H0.out, intV_append]; rfl] at hown3; have HO3 := hide hown3; clear hown3 hgrow3))
      all_goals
        go_wp2
        try rw [e0]
        go_roundw
        case rel => exact ⟨k+1, by omega, by go_num, by rw [← e0]; exact HB.out.trans HB3.out, HO3.out⟩
        case measure => simp [intOf]; omega
    · obtain rfl : k = r.pauses.length := by omega
      rw [List.take_length] at hown
      have hml := marks_len r.pauses
      obtain ⟨hl, ⟨rfl, h0⟩ | ⟨g, cap, cur, rfl, hg, hcur, hn, hm, hsz, htk⟩⟩ := hown.out
      · have he : r.pauses = [] := by apply List.eq_nil_of_length_eq_zero; omega
        have hV := hide (show marksL r = [] by simp [marksL, he, marksOf])
        go_wp2
        go_ret
        exact ⟨none, 0, by rw [hV.out]; rfl, by repeat (first | with_reducible exact HW.out | with_reducible refine Below.setCell ?_ ?_ _ | with_reducible refine Below.alloc ?_ ?_ _ | with_reducible refine Below.drew ?_ | with_reducible refine below_drewN ?_ _ | omega | (simp <;> omega)), by rw [hV.out]; exact ⟨Nat.le_refl _, Nat.zero_le _, fun _ => rfl, fun h => absurd h (Nat.lt_irrefl 0), fun x hx => by cases hx⟩⟩
      · have hcl := hown.out.cells rfl
        have hgl := (hown.out.lt g rfl).2
        have hM := hide (show ∀ j (h : j < (marksOf r.pauses).length), wr.cell? ⟨g, 0 + j, none⟩ = some (.int .i64 (marksOf r.pauses)[j]) from fun j h => by
          have := hcl j (.int .i64 (marksOf r.pauses)[j]) (by simp [intV, h])
          rw [addr_add] at this; exact this)
        have hI := hide (show ∀ x ∈ marksOf r.pauses, I64 x by
          intro x hx
          simp only [marksOf, List.mem_flatMap] at hx
          obtain ⟨p, hp, hx⟩ := hx
          have := hok p hp
          simp at hx
          rcases hx with rfl | rfl
          · exact this.1.1
          · exact this.2.1)
        have SLI : ∀ X, Below wr.heap.size wr X → SlI X (some ⟨g, 0, none⟩) cap (marksOf r.pauses) := fun X hX =>
          SlI.below hX ⟨by omega, hm, nofun, fun _ => ⟨g, 0, rfl, hgl, hM.out⟩, hI.out⟩
        by_cases hp0 : r.pauses.length = 0
        · have d1 : decide (0 < (2 * r.pauses.length : Int)) = false := by rw [decide_eq_false_iff_not]; omega
          have hV := hide (show marksL r = marksOf r.pauses by simp [marksL, show (marksOf r.pauses).length = 0 by omega])
          go_wp2
          go_ret
          exact ⟨some ⟨g, 0, none⟩, cap, by rw [hV.out, hml]; first | rfl | (rw [hp0]; rfl), by repeat (first | with_reducible exact HW.out | with_reducible refine Below.setCell ?_ ?_ _ | with_reducible refine Below.alloc ?_ ?_ _ | with_reducible refine Below.drew ?_ | with_reducible refine below_drewN ?_ _ | omega | (simp <;> omega)), by rw [hV.out]; exact SLI _ (by repeat (first | with_reducible exact Below.refl _ _ | with_reducible refine Below.drew ?_ | with_reducible refine below_drewN ?_ _ | omega | (simp <;> omega)))⟩
        · cases ho : r.open_
          · have hV := hide (show marksL r = marksOf r.pauses by simp [marksL, ho])
            go_wp2
            go_ret
            exact ⟨some ⟨g, 0, none⟩, cap, by rw [hV.out, hml]; first | rfl | (rw [hp0]; rfl), by repeat (first | with_reducible exact HW.out | with_reducible refine Below.setCell ?_ ?_ _ | with_reducible refine Below.alloc ?_ ?_ _ | with_reducible refine Below.drew ?_ | with_reducible refine below_drewN ?_ _ | omega | (simp <;> omega)), by rw [hV.out]; exact SLI _ (by repeat (first | with_reducible exact Below.refl _ _ | with_reducible refine Below.drew ?_ | with_reducible refine below_drewN ?_ _ | omega | (simp <;> omega)))⟩
          · have HO := hide ho
            obtain ⟨m, hm1⟩ : ∃ m, m + 1 = 2 * r.pauses.length := ⟨2 * r.pauses.length - 1, by omega⟩
            have hc9 := hM.out m (by omega)
            have hgl' : (marksOf r.pauses).getLast? = some ((marksOf r.pauses)[m]'(by omega)) := by
              rw [List.getLast?_eq_getElem?, List.getElem?_eq_getElem (by omega)]; congr 1; congr 1; omega
            generalize hlv : (marksOf r.pauses)[m]'(by omega) = lv at *
            simp only [Nat.zero_add] at hc9
            rw [show m = 2 * r.pauses.length - 1 by omega] at hc9
            have hwr : IntKind.i64.wrap ((2 * r.pauses.length : Nat) - 1 : Int) = m := by rw [IntWalk.i64_in _ (by omega)]; omega
            have hgt : g < wr.heap.size := hgl
            by_cases hl0 : lv = 0
            · have hV := hide (show marksL r = (marksOf r.pauses).dropLast by simp only [marksL]; rw [if_pos ⟨by omega, ho, by rw [hgl', hl0]⟩])
              go_wp2
              go_ret
              refine ⟨some ⟨g, 0, none⟩, cap, by rw [hV.out, List.length_dropLast, hml]; rfl, by repeat (first | with_reducible exact HW.out | with_reducible refine Below.setCell ?_ ?_ _ | with_reducible refine Below.alloc ?_ ?_ _ | with_reducible refine Below.drew ?_ | with_reducible refine below_drewN ?_ _ | omega | (simp <;> omega)), ?_⟩
              rw [hV.out]
              refine SlI.below (show Below wr.heap.size wr _ by repeat (first | with_reducible exact Below.refl _ _ | with_reducible refine Below.drew ?_ | with_reducible refine below_drewN ?_ _ | omega | (simp <;> omega))) ⟨by rw [List.length_dropLast]; omega, hm, nofun, fun _ => ⟨g, 0, rfl, hgl, fun j h => ?_⟩, fun x hx => hI.out x (List.dropLast_subset _ hx)⟩
              rw [List.length_dropLast] at h
              rw [List.getElem_dropLast]
              exact hM.out j (by omega)
            · have hV := hide (show marksL r = marksOf r.pauses by simp only [marksL]; rw [if_neg (fun h => hl0 (by have := h.2.2; rw [hgl'] at this; exact Option.some.inj this))])
              go_wp2
              go_ret
              exact ⟨some ⟨g, 0, none⟩, cap, by rw [hV.out, hml]; rfl, by repeat (first | with_reducible exact HW.out | with_reducible refine Below.setCell ?_ ?_ _ | with_reducible refine Below.alloc ?_ ?_ _ | with_reducible refine Below.drew ?_ | with_reducible refine below_drewN ?_ _ | omega | (simp <;> omega)), by rw [hV.out]; exact SLI _ (by repeat (first | with_reducible exact Below.refl _ _ | with_reducible refine Below.drew ?_ | with_reducible refine below_drewN ?_ _ | omega | (simp <;> omega)))⟩
end Go.Proofs.Ytfpdhalfkfffnaa
