import Derived.Test.YtcnnffbpdemoiaaW7
namespace Go.Proofs.Ytcnnffbpdemoiaa
open Go.RowKit
set_option linter.unusedVariables false

/-- append on a slice that the call owns, as one step of a region that draws. -/
theorem step_append_own {P : Program} {ops : Array Oper} {o : Oper} {a : Act} {w : World} {K : Act → World → Prop} {Q : Exit → Act → World → Prop} {E : Prop}
    (hg : o.guard = none) (s x : Operand) (t : TypeId) (hop : o.op = Op.call { callee := Callee.builtin Builtin.append, args := #[s, x], argTypes := #[t, t] })
    (e : TypeId) (i : TypeInfo) (z : Value) (size bytes : Nat) (h1 : P.underlying t = some (.slice e)) (h2 : P.info? e = some i) (h3 : i.zero = some z) (h4 : i.size = size) (h5 : i.bytes = bytes) (h6 : z.cells.size = size) (h7 : 0 < size)
    (base : Nat) (v : Value) (n : Nat) (xs : List Value) (hs : a.eval s = v) (hown : w.ownsRow base e size v n xs)
    (ad : Addr) (m c : Nat) (news : List Value) (hx : a.eval x = .slice (some ad) m c) (hn : news.length = m * size) (hc : ∀ j u, news[j]? = some u → w.cell? (ad.add j) = some u) (h1c : ∀ u ∈ news, u.oneCell' = true)
    (b1 : n + m ≤ maxLen) (b2 : (n + m) * bytes ≤ 140737488355328) (hb : base ≤ w.heap.size)
    (hK : ∀ v' w', w'.ownsRow base e size v' (n + m) (xs ++ news) → w.grownBy w' v.ownBlock → K (a.put o.dst v') w') :
    if Region.wanted o (yielded ops a.tmps) = true then Oper.wp P o a w K Q else E := by
  have hw : Region.wanted o (yielded ops a.tmps) = true := by simp [Region.wanted, hg]
  rw [if_pos hw]
  obtain ⟨v', w', hrun, r1, r2, _⟩ := run_append_own (P := P) w base t o.type e i z size bytes h1 h2 h3 h4 h5 h6 h7 v n xs hown ad m c news hn hc h1c b1 b2 hb
  unfold Oper.wp
  simp [execOp, hop, resolve, invoke, builtin, hs, hx, hrun, Result.andThen]
  exact hK v' w' r1 r2

set_option maxHeartbeats 2000000 in
theorem radd_some (a0 : Option Addr) (ad : Addr) (cap0 cap : Nat) (fs : List FareS) (l : List RefS) (r : RefS) (w : World) (HF : FareS.sl w a0 cap0 fs) (H : RefS.sl w (some ad) cap l) (hr : RefS.ok w r) (hl : l.length ≤ 600) :
    Calls Try.prog 15 #[.slice a0 fs.length cap0, .slice (some ad) l.length cap, .agg #[.int .i64 r.id, .int .i64 r.ride, .int .i64 r.item, .int .i64 r.amount]] w (AddPost w fs l r) := by
  have HL := hide H
  have hle := H.1
  have hlm := Nat.le_trans H.1 H.2.1
  unfold maxLen at hlm
  clear H
  have HF' := hide HF; clear HF
  have HR := hide hr; clear hr
  obtain ⟨i0, hi, hz0, hz1, hz2⟩ := info_parts info30
  have HI := hide hi; have HZ0 := hide hz0; have HZ1 := hide hz1; have HZ2 := hide hz2
  clear hi hz0 hz1 hz2
  go_enter Try.func15, Try.ntmps15
  go_wp2_with (go_at_call 13; refine (rcheck_c a0 (some ad) cap0 cap fs l _ ?_ ?_).mono ?_)
  · exact FareS.sl_below ((Below.refl _ _).alloc (Nat.le_refl _) _) HF'.out
  · exact RefS.sl_below ((Below.refl _ _).alloc (Nat.le_refl _) _) HL.out
  · rintro e w1 ⟨rfl, hb⟩
    obtain ⟨hc, hz⟩ := bcell hb
    have hs := hb.size
    simp at hs hc hz
    have hs0 : w.heap.size < w.heap.size + 1 := by omega
    have hs2 : w.heap.size < w1.heap.size := by omega
    have HB := hide (((Below.refl w.heap.size w).alloc (Nat.le_refl _) _).trans (hb.mono (by simp)))
    generalize hE : checkL fs l = E at *
    have HE := hide hE; clear hE
    cases hE0 : (E != 0)
    · have hold : ∀ X, Below w1.heap.size w1 X → ∀ j u, (RefS.flat l)[j]? = some u → X.cell? (ad.add j) = some u := by
        intro X hX j u h
        obtain ⟨h1, h2⟩ := sl_cells (RefS.sl_below HB.out HL.out) j u h
        rw [hX.cell (p := ad.add j) (by unfold Addr.add; split <;> exact h2)]
        exact h1
      have HOLD := hide hold; clear hold
      obtain ⟨l2, hl2⟩ : ∃ l2, l2 = l ++ [r] := ⟨_, rfl⟩
      have E1 := hide (show l.length + 1 = l2.length by rw [hl2, List.length_append]; rfl)
      have E2 := hide (show RefS.flat l ++ r.vals = RefS.flat l2 by rw [hl2, RefS.flat_append, RefS.flat_one])
      have E3 := hide (show 0 < l2.length by rw [hl2]; simp)
      have HL2 := hide hl2; clear hl2
      have hok' := hide (show ∀ (X : World), ∀ x ∈ l2, RefS.ok X x by
        intro X x hx
        rw [HL2.out] at hx
        rcases List.mem_append.1 hx with hx | hx
        · exact HL.out.2.2.2.2 x hx
        · simp at hx; subst hx; exact HR.out)
      have OWN0 := hide (show ∀ (X : World) g, X.heap[g]? = some (.cells #[] 30 (0, 0)) → w1.heap.size ≤ g → X.ownsRow w1.heap.size 30 4 (.slice (some ⟨g, 0, none⟩) 0 0) 0 [] from
        fun X g h hg => ⟨rfl, .inr ⟨g, 0, #[], rfl, hg, h, Nat.le_refl _, Nat.zero_le _, rfl, rfl⟩⟩)
      go_wp2
      go_region_law (first | (refine step_append_own rfl (.tmp 17) (.tmp 18) 23 rfl 30 i0 _ 4 32 Try.underlying23 HI.out HZ0.out HZ1.out HZ2.out rfl (by decide) w1.heap.size (.slice (some ⟨w1.heap.size, 0, none⟩) 0 0) 0 [] (by rfl) (by exact OWN0.out _ _ (heap_alloc_new _ _) (by omega)) ad l.length cap (RefS.flat l) (by rfl) (RefS.flat_len l) (by exact HOLD.out _ (by repeat (first | with_reducible exact Below.refl _ _ | with_reducible refine Below.setCell ?_ ?_ _ | with_reducible refine Below.alloc ?_ ?_ _ | with_reducible refine Below.drew ?_ | with_reducible refine below_drewN ?_ _ | omega | (simp <;> omega)))) (RefS.flat_cell l) (by unfold maxLen; omega) (by omega) (by first | omega | (simp <;> omega)) ?_; intro v1 w2 hown1 hgrow1; have hb12 : Below w1.heap.size w1 w2 := Below.grown (by repeat (first | with_reducible exact Below.refl _ _ | with_reducible refine Below.setCell ?_ ?_ _ | with_reducible refine Below.alloc ?_ ?_ _ | with_reducible refine Below.drew ?_ | with_reducible refine below_drewN ?_ _ | omega | (simp <;> omega))) hgrow1 (by first | omega | (simp <;> omega)) (fun k hk => by simp [Value.ownBlock] at hk; omega); obtain ⟨hc2, hz2⟩ := bcell hb12; have hs12 := hb12.size; have HB12 := hide hb12; clear hb12; have HOWN1 := hide hown1; clear hown1; clear hgrow1) | (refine step_append_own rfl (.tmp 17) (.tmp 18) 23 rfl 30 i0 _ 4 32 Try.underlying23 HI.out HZ0.out HZ1.out HZ2.out rfl (by decide) w1.heap.size (.slice (some ⟨w1.heap.size, 0, none⟩) 0 0) 0 [] (by rfl) (by exact OWN0.out _ _ (heap_alloc2_old _ _ _) (by omega)) ad l.length cap (RefS.flat l) (by rfl) (RefS.flat_len l) (by exact HOLD.out _ (by repeat (first | with_reducible exact Below.refl _ _ | with_reducible refine Below.setCell ?_ ?_ _ | with_reducible refine Below.alloc ?_ ?_ _ | with_reducible refine Below.drew ?_ | with_reducible refine below_drewN ?_ _ | omega | (simp <;> omega)))) (RefS.flat_cell l) (by unfold maxLen; omega) (by omega) (by first | omega | (simp <;> omega)) ?_; intro v1 w2 hown1 hgrow1; have hb12 : Below w1.heap.size w1 w2 := Below.grown (by repeat (first | with_reducible exact Below.refl _ _ | with_reducible refine Below.setCell ?_ ?_ _ | with_reducible refine Below.alloc ?_ ?_ _ | with_reducible refine Below.drew ?_ | with_reducible refine below_drewN ?_ _ | omega | (simp <;> omega))) hgrow1 (by first | omega | (simp <;> omega)) (fun k hk => by simp [Value.ownBlock] at hk; omega); obtain ⟨hc2, hz2⟩ := bcell hb12; have hs12 := hb12.size; have HB12 := hide hb12; clear hb12; have HOWN1 := hide hown1; clear hown1; have HRC := hide (show ∀ j u, r.vals[j]? = some u → w2.cell? ((⟨w1.heap.size + 1, 0, none⟩ : Addr).add j) = some u by intro j u hj; rw [addr_add, World.cell?_of_block (hgrow1.block (w1.heap.size + 1) (by first | omega | (simp <;> omega)) (by simp [Value.ownBlock]))]; simpa using hj); clear hgrow1) | (refine step_append_own rfl (.tmp 17) (.tmp 18) 23 rfl 30 i0 _ 4 32 Try.underlying23 HI.out HZ0.out HZ1.out HZ2.out rfl (by decide) w1.heap.size (.slice (some ⟨w1.heap.size + 1, 0, none⟩) 0 0) 0 [] (by rfl) (by exact OWN0.out _ _ (heap_alloc2_new _ _ _) (by omega)) ad l.length cap (RefS.flat l) (by rfl) (RefS.flat_len l) (by exact HOLD.out _ (by repeat (first | with_reducible exact Below.refl _ _ | with_reducible refine Below.setCell ?_ ?_ _ | with_reducible refine Below.alloc ?_ ?_ _ | with_reducible refine Below.drew ?_ | with_reducible refine below_drewN ?_ _ | omega | (simp <;> omega)))) (RefS.flat_cell l) (by unfold maxLen; omega) (by omega) (by first | omega | (simp <;> omega)) ?_; intro v1 w2 hown1 hgrow1; have hb12 : Below w1.heap.size w1 w2 := Below.grown (by repeat (first | with_reducible exact Below.refl _ _ | with_reducible refine Below.setCell ?_ ?_ _ | with_reducible refine Below.alloc ?_ ?_ _ | with_reducible refine Below.drew ?_ | with_reducible refine below_drewN ?_ _ | omega | (simp <;> omega))) hgrow1 (by first | omega | (simp <;> omega)) (fun k hk => by simp [Value.ownBlock] at hk; omega); obtain ⟨hc2, hz2⟩ := bcell hb12; have hs12 := hb12.size; have HB12 := hide hb12; clear hb12; have HOWN1 := hide hown1; clear hown1; have HRC := hide (show ∀ j u, r.vals[j]? = some u → w2.cell? ((⟨w1.heap.size, 0, none⟩ : Addr).add j) = some u by intro j u hj; rw [addr_add, World.cell?_of_block (hgrow1.block w1.heap.size (by first | omega | (simp <;> omega)) (by simp [Value.ownBlock]))]; simpa using hj); clear hgrow1) | (refine step_append_own rfl (.tmp 19) (.tmp 21) 23 rfl 30 i0 _ 4 32 Try.underlying23 HI.out HZ0.out HZ1.out HZ2.out rfl (by decide) w1.heap.size v1 (0 + l.length) ([] ++ RefS.flat l) (by rfl) (HOWN1.out.alloc _) ⟨w2.heap.size, 0, none⟩ 1 1 r.vals (by rfl) rfl (by intro j u hj; rw [addr_add]; simpa using hj) (by intro u hu; exact RefS.flat_cell [r] u (by simpa [RefS.flat] using hu)) (by unfold maxLen; omega) (by omega) (by first | omega | (simp <;> omega)) ?_; intro v3 w3 hown3 hgrow3; have HB3 := hide (show Below w1.heap.size w1 w3 from Below.grown (HB12.out.alloc hs12 _) hgrow3 (by first | omega | (simp <;> omega)) (fun k hk => (HOWN1.out.lt k hk).1)); rw [List.nil_append, Nat.zero_add, E1.out, E2.out] at hown3; obtain ⟨b3, c3, hv3, hbb3, hsl3⟩ := RefS.sl_own hown3 E3.out (hok'.out _); rw [hv3]; have HSL := hide hsl3; clear hv3 hown3 hgrow3 hsl3) | (refine step_append_own rfl (.tmp 19) (.tmp 21) 23 rfl 30 i0 _ 4 32 Try.underlying23 HI.out HZ0.out HZ1.out HZ2.out rfl (by decide) w1.heap.size v1 (0 + l.length) ([] ++ RefS.flat l) (by rfl) (HOWN1.out) ⟨w1.heap.size + 1, 0, none⟩ 1 1 r.vals (by rfl) rfl (HRC.out) (by intro u hu; exact RefS.flat_cell [r] u (by simpa [RefS.flat] using hu)) (by unfold maxLen; omega) (by omega) (by first | omega | (simp <;> omega)) ?_; intro v3 w3 hown3 hgrow3; have HB3 := hide (show Below w1.heap.size w1 w3 from Below.grown (HB12.out) hgrow3 (by first | omega | (simp <;> omega)) (fun k hk => (HOWN1.out.lt k hk).1)); rw [List.nil_append, Nat.zero_add, E1.out, E2.out] at hown3; obtain ⟨b3, c3, hv3, hbb3, hsl3⟩ := RefS.sl_own hown3 E3.out (hok'.out _); rw [hv3]; have HSL := hide hsl3; clear hv3 hown3 hgrow3 hsl3) | (refine step_append_own rfl (.tmp 19) (.tmp 21) 23 rfl 30 i0 _ 4 32 Try.underlying23 HI.out HZ0.out HZ1.out HZ2.out rfl (by decide) w1.heap.size v1 (0 + l.length) ([] ++ RefS.flat l) (by rfl) (HOWN1.out) ⟨w1.heap.size, 0, none⟩ 1 1 r.vals (by rfl) rfl (HRC.out) (by intro u hu; exact RefS.flat_cell [r] u (by simpa [RefS.flat] using hu)) (by unfold maxLen; omega) (by omega) (by first | omega | (simp <;> omega)) ?_; intro v3 w3 hown3 hgrow3; have HB3 := hide (show Below w1.heap.size w1 w3 from Below.grown (HB12.out) hgrow3 (by first | omega | (simp <;> omega)) (fun k hk => (HOWN1.out.lt k hk).1)); rw [List.nil_append, Nat.zero_add, E1.out, E2.out] at hown3; obtain ⟨b3, c3, hv3, hbb3, hsl3⟩ := RefS.sl_own hown3 E3.out (hok'.out _); rw [hv3]; have HSL := hide hsl3; clear hv3 hown3 hgrow3 hsl3))
      all_goals
        have hgs := HB3.out.size
        have HB2 := hide (HB.out.trans (HB3.out.mono (by omega)))
        go_wp2_with (go_at_call 13; refine (rcheck_c a0 (some ⟨b3, 0, none⟩) cap0 c3 fs l2 _ ?_ ?_).mono ?_)
        · exact FareS.sl_below HB2.out HF'.out
        · exact HSL.out
        · rintro e w4 ⟨rfl, hb4⟩
          have hs4 := hb4.size
          have HB4 := hide (HB2.out.trans (hb4.mono (by omega)))
          have HSL4 := hide (RefS.sl_below hb4 HSL.out); clear hb4
          generalize hE2 : checkL fs l2 = E2 at *
          have HE2 := hide (show checkL fs (l ++ [r]) = E2 by rw [← HL2.out]; exact hE2); clear hE2
          have hV := hide (show addL fs l r = E2 by
            have h0 : E = 0 := by simpa using hE0
            simp [addL, HE.out, h0, HE2.out])
          cases hE20 : (E2 != 0)
          · have h20 := hide (show E2 = 0 by simpa using hE20)
            go_wp2
            go_ret2
            exact ⟨_, by rw [hV.out]; simp only [h20.out]; rfl, HB4.out, .inr ⟨by rw [hV.out]; exact h20.out, b3, c3, by rw [← HL2.out]; rfl, by rw [← HL2.out]; exact HSL4.out⟩⟩
          · have h20 := hide (show E2 ≠ 0 by simpa using hE20)
            go_wp2
            go_ret2
            exact ⟨_, by rw [hV.out]; rfl, HB4.out, .inl ⟨by rw [hV.out]; exact h20.out, rfl⟩⟩
    · have h20 := hide (show E ≠ 0 by simpa using hE0)
      have hV := hide (show addL fs l r = E by rw [addL, if_pos (by rw [HE.out]; exact h20.out), HE.out])
      go_wp2
      go_ret2
      exact ⟨_, by rw [hV.out]; rfl, HB.out, .inl ⟨by rw [hV.out]; exact h20.out, rfl⟩⟩
set_option maxHeartbeats 2000000 in
theorem radd_none (a0 : Option Addr) (cap0 : Nat) (fs : List FareS) (r : RefS) (w : World) (HF : FareS.sl w a0 cap0 fs) (hr : RefS.ok w r) :
    Calls Try.prog 15 #[.slice a0 fs.length cap0, .slice none 0 0, .agg #[.int .i64 r.id, .int .i64 r.ride, .int .i64 r.item, .int .i64 r.amount]] w (AddPost w fs [] r) := by
  have HL : ∀ X, Hid (RefS.sl X none 0 []) := fun X => hide (⟨Nat.le_refl _, Nat.zero_le _, fun _ => rfl, fun h => absurd h (Nat.lt_irrefl 0), fun x hx => by cases hx⟩)
  have HF' := hide HF; clear HF
  have HR := hide hr; clear hr
  obtain ⟨i0, hi, hz0, hz1, hz2⟩ := info_parts info30
  have HI := hide hi; have HZ0 := hide hz0; have HZ1 := hide hz1; have HZ2 := hide hz2
  clear hi hz0 hz1 hz2
  go_enter Try.func15, Try.ntmps15
  go_wp2_with (go_at_call 13; refine (rcheck_c a0 none cap0 0 fs [] _ ?_ ?_).mono ?_)
  · exact FareS.sl_below ((Below.refl _ _).alloc (Nat.le_refl _) _) HF'.out
  · exact (HL _).out
  · rintro e w1 ⟨rfl, hb⟩
    obtain ⟨hc, hz⟩ := bcell hb
    have hs := hb.size
    simp at hs hc hz
    have hs0 : w.heap.size < w.heap.size + 1 := by omega
    have hs2 : w.heap.size < w1.heap.size := by omega
    have HB := hide (((Below.refl w.heap.size w).alloc (Nat.le_refl _) _).trans (hb.mono (by simp)))
    generalize hE : checkL fs [] = E at *
    have HE := hide hE; clear hE
    cases hE0 : (E != 0)
    · obtain ⟨l2, hl2⟩ : ∃ l2, l2 = [r] := ⟨_, rfl⟩
      have E1 := hide (show 0 + 1 = l2.length by rw [hl2]; rfl)
      have E2 := hide (show [] ++ r.vals = RefS.flat l2 by rw [hl2, RefS.flat_one]; rfl)
      have E3 := hide (show 0 < l2.length by rw [hl2]; simp)
      have HL2 := hide hl2; clear hl2
      have hok' := hide (show ∀ (X : World), ∀ x ∈ l2, RefS.ok X x by
        intro X x hx
        rw [HL2.out] at hx
        simp at hx; subst hx; exact HR.out)
      have OWN0 := hide (show ∀ (X : World) g, X.heap[g]? = some (.cells #[] 30 (0, 0)) → w1.heap.size ≤ g → X.ownsRow w1.heap.size 30 4 (.slice (some ⟨g, 0, none⟩) 0 0) 0 [] from
        fun X g h hg => ⟨rfl, .inr ⟨g, 0, #[], rfl, hg, h, Nat.le_refl _, Nat.zero_le _, rfl, rfl⟩⟩)
      go_wp2
      go_region_law (first | (refine step_append_own rfl (.tmp 19) (.tmp 21) 23 rfl 30 i0 _ 4 32 Try.underlying23 HI.out HZ0.out HZ1.out HZ2.out rfl (by decide) w1.heap.size (.slice (some ⟨w1.heap.size, 0, none⟩) 0 0) 0 [] (by rfl) (by exact OWN0.out _ _ (heap_alloc2_old _ _ _) (by omega)) ⟨w1.heap.size + 1, 0, none⟩ 1 1 r.vals (by rfl) rfl (by intro j u hj; rw [addr_add]; simpa using hj) (by intro u hu; exact RefS.flat_cell [r] u (by simpa [RefS.flat] using hu)) (by unfold maxLen; omega) (by omega) (by first | omega | (simp <;> omega)) ?_; intro v3 w3 hown3 hgrow3; have HB3 := hide (show Below w1.heap.size w1 w3 from Below.grown (by repeat (first | with_reducible exact Below.refl _ _ | with_reducible refine Below.setCell ?_ ?_ _ | with_reducible refine Below.alloc ?_ ?_ _ | with_reducible refine Below.drew ?_ | with_reducible refine below_drewN ?_ _ | omega | (simp <;> omega))) hgrow3 (by first | omega | (simp <;> omega)) (fun k hk => by simp [Value.ownBlock] at hk; omega)); rw [E1.out, E2.out] at hown3; obtain ⟨b3, c3, hv3, hbb3, hsl3⟩ := RefS.sl_own hown3 E3.out (hok'.out _); rw [hv3]; have HSL := hide hsl3; clear hv3 hown3 hgrow3 hsl3) | (refine step_append_own rfl (.tmp 19) (.tmp 21) 23 rfl 30 i0 _ 4 32 Try.underlying23 HI.out HZ0.out HZ1.out HZ2.out rfl (by decide) w1.heap.size (.slice (some ⟨w1.heap.size + 1, 0, none⟩) 0 0) 0 [] (by rfl) (by exact OWN0.out _ _ (heap_alloc2_new _ _ _) (by omega)) ⟨w1.heap.size, 0, none⟩ 1 1 r.vals (by rfl) rfl (by intro j u hj; rw [addr_add]; simpa using hj) (by intro u hu; exact RefS.flat_cell [r] u (by simpa [RefS.flat] using hu)) (by unfold maxLen; omega) (by omega) (by first | omega | (simp <;> omega)) ?_; intro v3 w3 hown3 hgrow3; have HB3 := hide (show Below w1.heap.size w1 w3 from Below.grown (by repeat (first | with_reducible exact Below.refl _ _ | with_reducible refine Below.setCell ?_ ?_ _ | with_reducible refine Below.alloc ?_ ?_ _ | with_reducible refine Below.drew ?_ | with_reducible refine below_drewN ?_ _ | omega | (simp <;> omega))) hgrow3 (by first | omega | (simp <;> omega)) (fun k hk => by simp [Value.ownBlock] at hk; omega)); rw [E1.out, E2.out] at hown3; obtain ⟨b3, c3, hv3, hbb3, hsl3⟩ := RefS.sl_own hown3 E3.out (hok'.out _); rw [hv3]; have HSL := hide hsl3; clear hv3 hown3 hgrow3 hsl3))
      all_goals
        have hgs := HB3.out.size
        have HB2 := hide (HB.out.trans (HB3.out.mono (by omega)))
        go_wp2_with (go_at_call 13; refine (rcheck_c a0 (some ⟨b3, 0, none⟩) cap0 c3 fs l2 _ ?_ ?_).mono ?_)
        · exact FareS.sl_below HB2.out HF'.out
        · exact HSL.out
        · rintro e w4 ⟨rfl, hb4⟩
          have hs4 := hb4.size
          have HB4 := hide (HB2.out.trans (hb4.mono (by omega)))
          have HSL4 := hide (RefS.sl_below hb4 HSL.out); clear hb4
          generalize hE2 : checkL fs l2 = E2 at *
          have HE2 := hide (show checkL fs [r] = E2 by rw [← HL2.out]; exact hE2); clear hE2
          have hV := hide (show addL fs [] r = E2 by
            have h0 : E = 0 := by simpa using hE0
            simp [addL, HE.out, h0, HE2.out])
          cases hE20 : (E2 != 0)
          · have h20 := hide (show E2 = 0 by simpa using hE20)
            go_wp2
            go_ret2
            exact ⟨_, by rw [hV.out]; simp only [h20.out]; rfl, HB4.out, .inr ⟨by rw [hV.out]; exact h20.out, b3, c3, by rw [← HL2.out]; rfl, by rw [← HL2.out]; exact HSL4.out⟩⟩
          · have h20 := hide (show E2 ≠ 0 by simpa using hE20)
            go_wp2
            go_ret2
            exact ⟨_, by rw [hV.out]; rfl, HB4.out, .inl ⟨by rw [hV.out]; exact h20.out, rfl⟩⟩
    · have h20 := hide (show E ≠ 0 by simpa using hE0)
      have hV := hide (show addL fs [] r = E by rw [addL, if_pos (by rw [HE.out]; exact h20.out), HE.out])
      go_wp2
      go_ret2
      exact ⟨_, by rw [hV.out]; rfl, HB.out, .inl ⟨by rw [hV.out]; exact h20.out, rfl⟩⟩

theorem radd_c (a0 a : Option Addr) (cap0 cap : Nat) (fs : List FareS) (l : List RefS) (r : RefS) (w : World) (HF : FareS.sl w a0 cap0 fs) (H : RefS.sl w a cap l) (hr : RefS.ok w r) (hl : l.length ≤ 600) :
    Calls Try.prog 15 #[.slice a0 fs.length cap0, .slice a l.length cap, .agg #[.int .i64 r.id, .int .i64 r.ride, .int .i64 r.item, .int .i64 r.amount]] w (AddPost w fs l r) := by
  cases a with
  | some ad => exact radd_some a0 ad cap0 cap fs l r w HF H hr hl
  | none =>
    obtain rfl : cap = 0 := H.2.2.1 rfl
    have : l = [] := List.eq_nil_of_length_eq_zero (by have := H.1; omega)
    subst this
    exact radd_none a0 cap0 fs r w HF hr
end Go.Proofs.Ytcnnffbpdemoiaa
