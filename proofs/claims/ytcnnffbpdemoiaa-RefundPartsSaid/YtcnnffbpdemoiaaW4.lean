import Derived.Test.YtcnnffbpdemoiaaW3
namespace Go.Proofs.Ytcnnffbpdemoiaa
open Go.RowKit
open Go.Maps (Keyed)
set_option linter.unusedVariables false

def errL (fs : List FareS) (l : List RefS) : Int := match l.find? (fun r => oneL fs r != 0) with
  | some r => oneL fs r
  | none => 0
def amtBad (fs : List FareS) (l : List RefS) (r : RefS) : Bool := match itemL fs r.ride r.item with
  | some (f, x) => decide (x.amount < sumI l r.ride r.item) || decide (f.total < sumR l r.ride)
  | none => false
def checkL (fs : List FareS) (l : List RefS) : Int :=
  if 512 < l.length then 8 else if errL fs l ≠ 0 then errL fs l else if ¬ (l.map (·.id)).Nodup then 6 else if l.any (amtBad fs l) then 27 else 0

theorem errL_at {fs : List FareS} {l : List RefS} {k : Nat} (h : k < l.length) (hno : ∀ j (hj : j < l.length), j < k → oneL fs l[j] = 0) (hk : oneL fs l[k] ≠ 0) : errL fs l = oneL fs l[k] := by
  have := find_some (fun r => oneL fs r != 0) l k h (fun j hj hlt => by simp [hno j hj hlt]) (by simpa using hk)
  simp only [errL, this]
theorem errL_zero {fs : List FareS} {l : List RefS} (hno : ∀ j (hj : j < l.length), oneL fs l[j] = 0) : errL fs l = 0 := by
  have := find_none (fun r => oneL fs r != 0) l (fun j hj => by simp [hno j hj])
  simp only [errL, this]
theorem one_zero {fs : List FareS} {r : RefS} (h : oneL fs r = 0) : ∃ f x, itemL fs r.ride r.item = some (f, x) := by
  unfold oneL at h
  split at h
  · simp at h
  · split at h
    · simp at h
    · rename_i f x hx; exact ⟨_, _, hx⟩

def Ids (l : List RefS) (m : Value → Option Value) : Prop := ∀ x, (m (.int .i64 x)).getD (.bool false) = .bool (decide (x ∈ l.map (·.id)))
theorem Ids.nil : Ids [] (fun _ => none) := fun x => by simp
theorem Ids.snoc {l : List RefS} {m : Value → Option Value} (h : Ids l m) (r : RefS) : Ids (l ++ [r]) (upd m (.int .i64 r.id) (.bool true)) := by
  intro x
  by_cases e : x = r.id
  · subst e; rw [upd_same]; simp
  · rw [upd_other _ _ (fun h' => e (by injection h')), h x]; simp [e]

theorem nodup_snoc {l : List Int} {x : Int} (h : l.Nodup) (hx : x ∉ l) : (l ++ [x]).Nodup := by
  rw [List.nodup_append]; refine ⟨h, by simp, ?_⟩; intro a ha b hb; simp at hb; subst hb; exact fun e => hx (e ▸ ha)

set_option maxHeartbeats 2000000 in
theorem check_c (a0 a : Option Addr) (cap0 cap : Nat) (fs : List FareS) (l : List RefS) (w : World) (HF : FareS.sl w a0 cap0 fs) (H : RefS.sl w a cap l) :
    Calls Try.prog 12 #[.slice a0 fs.length cap0, .slice a l.length cap] w (Ret w (.int .i64 (checkL fs l))) := by
  have HL := hide H
  obtain ⟨hl1, hl2, -, hfs, hok⟩ := H
  have hlen := Nat.le_trans hl1 hl2
  unfold maxLen at hlen
  clear hl1 hl2
  have HF' := hide HF; clear HF
  have HO := hide hok; clear hok
  have hmm := @run_makeMap Try.prog
  by_cases h512 : 512 < l.length
  · have hV := hide (show checkL fs l = 8 by simp only [checkL, if_pos h512])
    have h' : (512 : Int) < (l.length : Int) := by omega
    go_enter Try.func12, Try.ntmps12
    go_wp2
    go_ret
    exact ⟨by rw [hV.out]; rfl, Below.refl _ _⟩
  have h' : (l.length : Int) ≤ 512 := by omega
  have H512 := hide h512; clear h512
  go_enter Try.func12, Try.ntmps12
  go_wp2
  -- the first loop: each refund by itself
  go_loopw [23] (fun i wr => ∃ k : Nat, k ≤ l.length ∧ i = .int .i64 k ∧ Below w.heap.size w wr ∧ Hid (∀ j (h : j < l.length), j < k → oneL fs l[j] = 0)) (fun i wr => l.length - (intOf i).toNat)
  case atStart => exact ⟨0, Nat.zero_le _, rfl, Below.refl _ _, fun _ _ h => absurd h (Nat.not_lt_zero _)⟩
  case round =>
    obtain ⟨k, hk, rfl, hb, hno⟩ := hrel
    obtain ⟨hc, hz⟩ := bcell hb
    have hs := hb.size
    by_cases hlt : k < l.length
    · obtain ⟨b, o, rfl, hbw, hf⟩ := hfs (by omega)
      obtain ⟨h0, h1, h2, h3⟩ := hf k hlt
      have hat := errL_at (fs := fs) hlt hno.out
      generalize hfk : l[k] = f at *
      have H2 := hide hf; clear hf
      have H3 := hide hfk; clear hfk
      have H4 := hide hat; clear hat
      have HB := hide hb; clear hb
      go_wp2_with (go_at_call 23; refine (one_c a0 cap0 fs f _ ?_).mono ?_)
      · exact FareS.sl_below (HB.out.alloc hs _) HF'.out
      · rintro e w1 ⟨rfl, hb1⟩
        have hs1 := hb1.size
        simp at hs1
        have hB1 : Below w.heap.size w w1 := (HB.out.alloc hs _).trans (hb1.mono (by simp; omega))
        have HB1 := hide hB1; clear hB1 hb1
        generalize hE : oneL fs f = E at *
        have HE := hide hE; clear hE
        cases hE0 : (E != 0)
        · go_wp2
          go_roundw
          case rel =>
            refine ⟨k+1, by omega, by go_num, HB1.out, ?_⟩
            intro j h hj
            by_cases e : j = k
            · subst e; have := H3.out; simp only [this]; rw [HE.out]; simpa using hE0
            · exact hno j h (by omega)
          case measure => simp [intOf]; omega
        · have HE0 := hide hE0
          have hV := hide (show checkL fs l = E by
            have hne : E ≠ 0 := by simpa using HE0.out
            have := H4.out hne
            simp only [checkL, if_neg H512.out, this, if_pos hne])
          go_wp2
          go_ret
          exact ⟨by rw [hV.out]; rfl, HB1.out⟩
    · obtain rfl : k = l.length := by omega
      have hone := hno.out
      have herr := hide (errL_zero (fun j hj => hno.out j hj hj))
      clear hno
      have HONE := hide hone; clear hone
      have HB := hide hb; clear hb
      obtain ⟨w2, hw2⟩ : ∃ w2, w2 = wr := ⟨_, rfl⟩
      subst hw2
      go_wp2
      -- the second loop: numbers that occur twice
      go_loopw [37] (fun i wr => ∃ k : Nat, k ≤ l.length ∧ i = .int .i64 k ∧ Below w.heap.size w wr ∧ w2.heap.size < wr.heap.size ∧ (∃ n m, Mv Try.prog 3 wr w2.heap.size n m ∧ Ids (l.take k) m) ∧ Hid ((l.take k).map (·.id)).Nodup) (fun i wr => l.length - (intOf i).toNat)
      case atStart => exact ⟨0, Nat.zero_le _, rfl, HB.out.alloc hs _, by simp, ⟨0, _, Mv.made Try.prog 3 w2, Ids.nil⟩, List.nodup_nil⟩
      case round =>
        obtain ⟨k, hk, rfl, hb2, hN2, ⟨n, m, hm, hids⟩, hnd⟩ := hrel
        obtain ⟨hc2, hz2⟩ := bcell hb2
        have hs2 := hb2.size
        by_cases hlt : k < l.length
        · obtain ⟨b, o, rfl, hbw, hf⟩ := hfs (by omega)
          obtain ⟨h0, h1, h2, h3⟩ := hf k hlt
          have e1 := take_snoc l k hlt
          obtain ⟨i1, _, _, _⟩ := HO.out l[k] (List.getElem_mem hlt)
          have hmem : l[k].id ∈ (l.take k).map (·.id) → ¬ (l.map (·.id)).Nodup := by
            intro hm' hnd'
            have e2 : l.map (·.id) = (l.take k).map (·.id) ++ (l[k].id :: (l.drop (k+1)).map (·.id)) := by
              rw [← List.map_cons (f := fun x : RefS => x.id), ← List.map_append, ← List.drop_eq_getElem_cons hlt, List.take_append_drop]
            rw [e2, List.nodup_append] at hnd'
            exact hnd'.2.2 _ hm' _ (List.mem_cons_self ..) rfl
          generalize hfk : l[k] = f at *
          have E1 := hide e1; clear e1
          have H2 := hide hf; clear hf
          have H3 := hide hfk; clear hfk
          have HMEM := hide hmem; clear hmem
          have HB2 := hide hb2; clear hb2
          have hlk := (hm.alloc (.cells #[.int .i64 f.id, .int .i64 f.ride, .int .i64 f.item, .int .i64 f.amount] 30)).look false law3 Try.underlying48 (zero4 _) (key3 i1)
          rw [hids f.id] at hlk
          simp only [if_false, Bool.false_eq_true] at hlk
          by_cases hin : f.id ∈ (l.take k).map (·.id)
          · have hd : decide (f.id ∈ (l.take k).map (·.id)) = true := by simpa using hin
            rw [hd] at hlk
            have hV := hide (show checkL fs l = 6 by
              have := HMEM.out hin
              simp only [checkL, if_neg H512.out, herr.out, ne_eq, not_true_eq_false, if_false, if_pos this])
            clear hd hids
            have HIN := hide hin; clear hin
            go_wp2
            go_ret
            exact ⟨by rw [hV.out]; rfl, HB2.out.alloc hs2 _⟩
          · have hd : decide (f.id ∈ (l.take k).map (·.id)) = false := by simpa using hin
            rw [hd] at hlk
            obtain ⟨wG, hup, hMG, hgG⟩ := (hm.alloc (.cells #[.int .i64 f.id, .int .i64 f.ride, .int .i64 f.item, .int .i64 f.amount] 30)).update (val := .bool true) law3 Try.underlying48 (key3 i1)
            clear hd
            have HIN := hide hin; clear hin
            have HIDS := hide hids; clear hids
            have HM := hide hm; clear hm
            have HMG := hide hMG; clear hMG
            have HGG := hide hgG; clear hgG
            go_wp2
            go_roundw
            case rel =>
              have hg3 := HGG.out.size
              simp at hg3
              refine ⟨k+1, by omega, by go_num, (HB2.out.alloc hs2 _).grown HGG.out (by simp; omega) (fun j hj => by cases hj; exact HB.out.size), by omega, ⟨_, _, HMG.out, ?_⟩, ?_⟩
              · rw [E1.out]; exact HIDS.out.snoc f
              · show (List.map (·.id) (l.take (k+1))).Nodup
                rw [E1.out, List.map_append]; exact nodup_snoc hnd.out HIN.out
            case measure => simp [intOf]; omega
        · obtain rfl : k = l.length := by omega
          rw [List.take_length] at hnd
          clear hids hm
          obtain ⟨w3, hw3⟩ : ∃ w3, w3 = wr := ⟨_, rfl⟩
          subst hw3
          have HB2 := hide hb2; clear hb2
          go_wp2_with (go_at_call 24; refine (sums_c a cap l _ ?_).mono ?_)
          · exact RefS.sl_below HB2.out HL.out
          · rintro e w4 ⟨rfl, hb4, hsum, hn4⟩
            have hB4 := hide (HB2.out.trans (hb4.mono hs2)); clear hb4
            have HSUM := hide hsum; clear hsum
            have hs34 : w3.heap.size < w4.heap.size := by omega
            have hs4 : w.heap.size ≤ w4.heap.size := by omega
            go_wp2
            -- the third loop: sums
            go_loopw [56] (fun i wr => ∃ k : Nat, k ≤ l.length ∧ i = .int .i64 k ∧ Below w.heap.size w wr ∧ w3.heap.size + 1 < wr.heap.size ∧ Hid (SumsAt wr w3.heap.size (w3.heap.size + 1) l) ∧ Hid (∀ j (h : j < l.length), j < k → amtBad fs l l[j] = false)) (fun i wr => l.length - (intOf i).toNat)
            case atStart => exact ⟨0, Nat.zero_le _, rfl, hB4.out, hn4, HSUM, fun _ _ h => absurd h (Nat.not_lt_zero _)⟩
            case round =>
              obtain ⟨k, hk, rfl, hb5, hn5, hsum, hno⟩ := hrel
              obtain ⟨hc5, hz5⟩ := bcell hb5
              have hs5 := hb5.size
              by_cases hlt : k < l.length
              · obtain ⟨b, o, rfl, hbw, hf⟩ := hfs (by omega)
                obtain ⟨h0, h1, h2, h3⟩ := hf k hlt
                obtain ⟨i0, i1, i2, i3⟩ := HO.out l[k] (List.getElem_mem hlt)
                obtain ⟨g, x, hgx⟩ := one_zero (HONE.out k hlt hlt)
                have hbad : amtBad fs l l[k] = (decide (x.amount < sumI l l[k].ride l[k].item) || decide (g.total < sumR l l[k].ride)) := by simp only [amtBad, hgx]
                generalize hfk : l[k] = f at *
                have H2 := hide hf; clear hf
                have H3 := hide hfk; clear hfk
                have HB5 := hide hb5; clear hb5
                have I1 := hide i1; have I2 := hide i2; clear i0 i1 i2 i3
                have HGX := hide hgx; clear hgx
                have HBAD := hide hbad; clear hbad
                go_wp2_with (go_at_call 25; refine (item_c a0 cap0 fs f.ride f.item _ ?_).mono ?_)
                · exact FareS.sl_below (HB5.out.alloc hs5 _) HF'.out
                · rintro e w6 ⟨rfl, hb6⟩
                  rw [HGX.out]
                  simp only [itemV]
                  have hs6 := hb6.size
                  simp at hs6
                  have hB6 := hide ((HB5.out.alloc hs5 _).trans (hb6.mono (by simp; omega)))
                  have hsum6 := hide ((hsum.out.alloc (.cells #[.int .i64 f.id, .int .i64 f.ride, .int .i64 f.item, .int .i64 f.amount] 30)).below hb6 (by simp; omega) (by simp; omega))
                  obtain ⟨hc6, hz6⟩ := bcell hb6
                  simp at hc6 hz6
                  clear hb6
                  have hk0 : wr.heap.size < wr.heap.size + 1 := by omega
                  have hk1 : wr.heap.size < w6.heap.size := by omega
                  have hk2 : wr.heap.size < w6.heap.size + 1 := by omega
                  obtain ⟨n, m1, m2, g1, g2, g3⟩ := hsum6.out
                  obtain ⟨kl, hkl⟩ := key55 I1.out I2.out
                  have hlk1 := fun nq => (((g1.alloc (.cells #[.int .i64 g.ride, .int .i64 g.rider, .slice g.itemsA g.items.length g.itemsC, .int .i64 g.total] 42)).alloc (.cells #[.int .i64 x.kind, .int .i64 x.ref, .int .i64 x.amount] 44)).drewN nq).look false law55 Try.underlying49 (zero3 _) hkl
                  have hlk2 := fun nq => (((g2.alloc (.cells #[.int .i64 g.ride, .int .i64 g.rider, .slice g.itemsA g.items.length g.itemsC, .int .i64 g.total] 42)).alloc (.cells #[.int .i64 x.kind, .int .i64 x.ref, .int .i64 x.amount] 44)).drewN nq).look false law3 Try.underlying50 (zero3 _) (key3 I1.out)
                  have q1 := g3.1 f.ride f.item
                  have q2 := g3.2 f.ride
                  change (m1 (.agg #[.int .i64 f.ride, .int .i64 f.item])).getD (.int .i64 0) = _ at q1
                  rw [q1] at hlk1
                  rw [q2] at hlk2
                  simp only [if_false, Bool.false_eq_true] at hlk1 hlk2
                  clear q1 q2 g1 g2 g3 hkl
                  generalize hsI : sumI l f.ride f.item = sI at *
                  generalize hsR : sumR l f.ride = sR at *
                  have SI := hide hsI; clear hsI
                  have SR := hide hsR; clear hsR
                  have hfin : ∀ (X : World), Below w.heap.size w X → True := fun _ _ => trivial
                  by_cases c1 : x.amount < sI
                  · have hV := hide (show checkL fs l = 27 by
                      have hb : l.any (amtBad fs l) = true := by
                        rw [List.any_eq_true]; exact ⟨f, H3.out ▸ List.getElem_mem hlt, by rw [HBAD.out]; simp [c1]⟩
                      have h5 := H512.out
                      have hn := hnd.out
                      simp [checkL, h5, herr.out, hn, hb])
                    have c1' : decide (x.amount < sI) = true := by simpa using c1
                    go_wp2
                    go_quiet (fail)
                    go_wp2
                    go_ret
                    refine ⟨by rw [hV.out]; rfl, ?_⟩
                    repeat (first | with_reducible exact hB6.out | with_reducible refine Below.setCell ?_ ?_ _ | with_reducible refine Below.alloc ?_ ?_ _ | with_reducible refine below_drewN ?_ _ | omega | (simp <;> omega))
                  · by_cases c2 : g.total < sR
                    · have hV := hide (show checkL fs l = 27 by
                        have hb : l.any (amtBad fs l) = true := by
                          rw [List.any_eq_true]; exact ⟨f, H3.out ▸ List.getElem_mem hlt, by rw [HBAD.out]; simp [c2]⟩
                        have h5 := H512.out
                        have hn := hnd.out
                        simp [checkL, h5, herr.out, hn, hb])
                      have c1' : decide (x.amount < sI) = false := by simpa using c1
                      have c2' : decide (g.total < sR) = true := by simpa using c2
                      go_wp2
                      go_quiet (fail)
                      go_wp2
                      go_ret
                      refine ⟨by rw [hV.out]; rfl, ?_⟩
                      repeat (first | with_reducible exact hB6.out | with_reducible refine Below.setCell ?_ ?_ _ | with_reducible refine Below.alloc ?_ ?_ _ | with_reducible refine below_drewN ?_ _ | omega | (simp <;> omega))
                    · have c1' : decide (x.amount < sI) = false := by simpa using c1
                      have c2' : decide (g.total < sR) = false := by simpa using c2
                      have HB := hide (show amtBad fs l f = false by rw [HBAD.out]; simp [c1, c2])
                      go_wp2
                      go_quiet (fail)
                      go_wp2
                      go_roundw
                      case rel =>
                        refine ⟨k+1, by omega, by go_num, ?_, ?_, ?_, ?_⟩
                        · repeat (first | with_reducible exact hB6.out | with_reducible refine Below.setCell ?_ ?_ _ | with_reducible refine Below.alloc ?_ ?_ _ | with_reducible refine below_drewN ?_ _ | omega | (simp <;> omega))
                        · simp; omega
                        · obtain ⟨n, m1, m2, g1, g2, g3⟩ := hsum6.out
                          exact ⟨n, m1, m2, ((g1.alloc _).alloc _).drewN _, ((g2.alloc _).alloc _).drewN _, g3⟩
                        · intro j h hj
                          by_cases e : j = k
                          · subst e; have := H3.out; simp only [this]; exact HB.out
                          · exact hno j h (by omega)
                      case measure => simp [intOf]; omega
              · obtain rfl : k = l.length := by omega
                have hV := hide (show checkL fs l = 0 by
                  have hb : l.any (amtBad fs l) = false := by
                    rw [List.any_eq_false]; intro y hy; obtain ⟨j, hj, rfl⟩ := List.getElem_of_mem hy; simp [hno.out j hj hj]
                  have h5 := H512.out
                  have hn := hnd.out
                  simp [checkL, h5, herr.out, hn, hb])
                have HB5 := hide hb5; clear hb5
                go_wp2
                go_ret
                exact ⟨by rw [hV.out]; rfl, HB5.out⟩
end Go.Proofs.Ytcnnffbpdemoiaa
